/- Part 14 of a proof. -/
import Derived.Laws.MakeOwn
import Derived.Test.YtolejdhnnchfpaaGreatDoorQ13
set_option linter.all false
namespace Go.Abs
section
variable {P:Program} {E:Ent}
theorem xoq{c:Ctx}{h:g9}{w:World}(s:HSim c h w)(k:E.ok c h w)(e:TypeId){sz n cap:Nat}{cur:Array Value}{rows:List (List AV)}(hn:rows.length=n)(quc:n<=cap)(lw:cap<=maxLen)(jm:n<=68719476736)
  (my:∀r,r∈rows->r.length=sz) (hsize:cur.size=cap * sz)
  (hus:∀(i' j:Nat) (r:List AV) (x:AV),rows[i']?=some r->r[j]?=some x->∃u,(cur.toList.take (n * sz))[i' * sz+j]?=some u/\DRel c.D x u) :
  c.le (c.addSl h.length n (.slice (some ⟨w.heap.size,0,none⟩) n cap))/\HSim (c.addSl h.length n (.slice (some ⟨w.heap.size,0,none⟩) n cap)) (h++[.uarr e sz rows]) (w.alloc (.cells cur e)) /\
   E.ok (c.addSl h.length n (.slice (some ⟨w.heap.size,0,none⟩) n cap)) (h++[.uarr e sz rows]) (w.alloc (.cells cur e)):=by
 obtain⟨v0,hv0⟩:∃v0,v0=Value.slice (some ⟨w.heap.size,0,none⟩) n cap:=⟨_,rfl⟩
 rw[<-hv0];have ij:c.le (c.addSl h.length n v0):=Ctx.addSl_le ((s.dom _ (cn _)).2 n);have na:∀i,i<h.length->∀m,(c.addSl h.length n v0).sl i m=c.sl i m:=λi hi m=>by grind[Ctx.addSl]
 have il:∀{i:Nat} {o:AObj},h[i]?=some o->i<h.length:=λhi=>(cm.1 hi).1;have ue:je (c.addSl h.length n v0) h.length (.uarr e sz rows)=some w.heap.size:=qij;have uv:∀b,b<w.heap.size->(w.alloc (.cells cur e)).heap[b]?=w.heap[b]?:=λb hb=>by first|exact heap_alloc_old w _ b hb|exact heap_alloc_old w _ hb
 refine⟨ij,⟨λb j v hD=>?_,λi hi=>?_,λi o hi=>?_,λi j o o' b hi hj hb iq=>?_,λi o b j v hi hb hD=>?_⟩,⟨k.edom,k.ext.trans ij,k.blk0,qe1,k.os,k.tape,k.output,dv k.size (qdy w _),λb hb kf=>?_,λi o b hi hb=>?_,k.dold⟩⟩
 .have mb:=s.data b j v hD;have hb:b<w.heap.size:=World.block_lt_of_cell? w ⟨b,j,none⟩ mb;rw[World.cell?_of_block (w:=w) (uv b hb)];exact mb
 .simp only[c7,dy,ed]at hi;have:=s.dom i aa;refine⟨this.1,λm=>?_⟩;simp only[Ctx.addSl];rw[if_neg aa];exact this.2 m
 .rcases oy hi with h1|⟨rfl,rfl⟩
  .exact(s.obj i o h1).keep ij (na i (il h1)) λb hb=>uv b ((s.obj i o h1).lt hb)
  .refine⟨v0,cur.toList.take (n * sz),by simp[Ctx.addSl,hn],qil,λm hm=>?_,?_,aa,my,hus⟩
   .simp only[Ctx.addSl];rw[if_neg aa];exact(s.dom _ (cn _)).2 m
   .rw[hv0,hn];refine⟨?_,.inr ⟨w.heap.size,cap,cur,rfl,dq _,heap_alloc_new w _,quc,lw,hsize,rfl⟩⟩;rw[ey,qjy,hsize];exact fm (dx _ quc)
 .rcases oy hi with h1|⟨rfl,rfl⟩<;>rcases oy hj with h2|⟨rfl,rfl⟩
  .rw[(s.obj i o h1).blk ij]at hb;rw[(s.obj j o' h2).blk ij]at iq;exact s.apart i j o o' b h1 h2 hb iq
  .rw[ue]at iq;rw[(s.obj i o h1).blk ij]at hb;cases iq;have:=(s.obj i o h1).lt hb;omega
  .rw[ue]at hb;rw[(s.obj j o' h2).blk ij]at iq;cases hb;have:=(s.obj j o' h2).lt iq;omega
  .rfl
 .have o7:c.D b j=some v:=hD;rcases oy hi with h1|⟨rfl,rfl⟩
  .rw[(s.obj i o h1).blk ij]at hb;exact s.sep i o b j v h1 hb o7
  .rw[ue]at hb;cases hb;rw[s.noD (cn _)]at o7;cases o7
 .rw[uv b (qi4 hb k.size)];exact k.frame b hb kf
 .rcases oy hi with h1|⟨rfl,rfl⟩
  .rw[(s.obj i o h1).blk ij]at hb;exact k.newobj i o b h1 hb
  .rw[ue]at hb;cases hb;exact .inr k.size
def qkx:Value->AV
 | .slice none 0 0=>.slice []
 |v=>.val v
def zOk(v:Value):Bool:=match v with
 | .slice none 0 0=>true
 |v=>v.oneCell'&&qkt v
theorem xdy{D:Nat->Nat->Option Value}{v:Value}(h:zOk v=true):DRel D (qkx v) v:=by
 unfold zOk at h;unfold qkx;split
 .exact .nil
 .rename_i it;split at h
  .grind
  .simp only[cw]at h;exact .val v h.1 h.2
theorem jfo{c:Ctx}{e:Env}{a:Act}{w:World}(s:Sim E.N c e a w)(k:E.ok c e.h w){ops:Array Oper}{rest:List Oper}{o1:Oper}{Q:Exit->Act->World->Prop}{T el:TypeId}{x:Operand}{d1 n:Nat}{i:TypeInfo}{z:Value}
  (g1:o1.guard=none) (hd1:o1.dst=some d1) (hlt1:d1<E.N) (hop1:o1.op=.makeSlice T x x)
  (ht:P.underlying T=some (.slice el)) (hi:P.info? el=some i) (hz:i.zero=some z) (p8:z.cells.size=i.size) (hpos:0<i.size) (hbytes:i.bytes<=2048) (hzok:∀v,v∈z.cells.toList->zOk v=true)
  (hx:me e true [x]) (hxv:e.getS x=.val (.int .i64 n)) (hn:n<=68719476736)
  (uy:∀c' a' w',Sim E.N c' (({ e with h:=e.h++[.uarr el i.size (List.replicate n (z.cells.toList.map qkx))] }:Env).put o1.dst (.own e.h.length n)) a' w'->E.ok c' (e.h++[.uarr el i.size (List.replicate n (z.cells.toList.map qkx))]) w'->wpList P ops Q rest a' w') :
  wpList P ops Q (o1::rest) a w:=by
 have mq:=rp s hx x ac;rw[hxv]at mq;have hvx:a.eval x=.int .i64 n:=mq.val_inv;have hbb:i.bytes * n<=2048 * 68719476736:=qjh hbytes hn;have jk:=run_make (P:=P) w T el i z ht hi hz .i64 .i64 (n:Int) (n:Int) aa (Int.le_refl _) (by
  have:(i.bytes:Int) * (n:Int)=((i.bytes * n:Nat):Int):=ac;omega) aa
 simp only[qke]at jk;have px:∀m,m<n * i.size->(madeCells z.cells (n * i.size))[m]?=z.cells[m % i.size]?:=λm hm=>by
  unfold madeCells;rw[fy];simp only[Array.getElem?_range,hm,if_true,e8,p8];have:m % i.size<z.cells.size:=qf8;rw[fi this,getElem!_pos z.cells (m % i.size) this]
 have jx:(madeCells z.cells (n * i.size)).size=n * i.size:=by simp[madeCells]
 have hU:=xoq (E:=E) (n:=n) (cap:=n) (sz:=i.size) (cur:=madeCells z.cells (n * i.size)) (rows:=List.replicate n (z.cells.toList.map qkx)) s.hs k el ac (cn _) qha hn (by
   intro r hr;rw[List.eq_of_mem_replicate hr];simp[p8]) jx (by
   intro i' j r x' hr nw;have mw:i'<n:=af;rw[qkf,if_pos mw]at hr;cases hr;rw[di]at nw;obtain⟨u,hu,rfl⟩:=db.1 nw;have hj:j<i.size:=af;have il:i' * i.size+j<n * i.size:=by
    have:(i'+1) * i.size<=n * i.size:=dx _ mw;rw[Nat.succ_mul]at this;omega
   refine⟨u,?_,xdy (hzok u (cv hu))⟩;rw[dt,if_pos il,fb,px _ il];have:(i' * i.size+j) % i.size=j:=qe7;rw[this,<-fb];exact hu)
 obtain⟨ij,s1,k1⟩:=hU;refine qcn (G:=true) qe4 (λ_=>?_) (λh=>by cases h);refine vj (w':=w.alloc (.cells (madeCells z.cells (n * i.size)) el)) (v:=.slice (some ⟨w.heap.size,0,none⟩) n n) (by simp only[execOp,hop1,hvx,c8,jk,c9,dm]) ?_;refine uy _ _ _ ?_ k1;exact s.put ij s1 (λj hj=>by rw[hd1]at hj;cases hj;exact hlt1) (.own _ _ _ bj rfl)
def qnx:AV->AV
 | .nils=>.slice []
 |x=>x
theorem xcf{v:Value}(h:ul v≠.top):qkx v=qnx (ul v)/\(v.oneCell'=true->zOk v=true):=by
 unfold ul at h|-;split at h
 .exact⟨rfl,λ_=>rfl⟩
 .split at h
  .rename_i hs;refine⟨?_,λ_=>?_⟩
   .rw[if_pos hs];rfl
   .grind[zOk,qkt]
  .grind
 .rename_i h1 h2;refine⟨?_,λho=>?_⟩
  .unfold qkx;split
   .grind
   .rfl
  .grind[zOk,qkt]
theorem xxu{c:Ctx}{e:Env}{a:Act}{w:World}(s:Sim E.N c e a w)(k:E.ok c e.h w){ops:Array Oper}{rest:List Oper}{o1:Oper}{Q:Exit->Act->World->Prop}{T el:TypeId}{x:Operand}{d1 n sz:Nat}{zr:List AV}
  (g1:o1.guard=none) (hd1:o1.dst=some d1) (hlt1:d1<E.N) (hop1:o1.op=.makeSlice T x x)
  (hT:im P T=.slice el sz) (hel:im P el≠.other) (hsize:jd P el=sz) (hpos:0<sz) (hbytes:jq P el<=2048) (hzt:∀x,x∈jh P el->x≠.top) (hzr:(jh P el).map qnx=zr)
  (hx:me e true [x]) (hxv:e.getS x=.val (.int .i64 n)) (hn:n<=68719476736)
  (uy:∀c' a' w',Sim E.N c' (({ e with h:=e.h++[.uarr el sz (List.replicate n zr)] }:Env).put o1.dst (.own e.h.length n)) a' w'->E.ok c' (e.h++[.uarr el sz (List.replicate n zr)]) w'->wpList P ops Q rest a' w') :
  wpList P ops Q (o1::rest) a w:=by
 obtain⟨iT,dT,zT,_,pw,_,ua,_⟩:=li hT ac;obtain⟨rfl,ie,ln,un⟩:=vh ua;obtain⟨ie',de,ze,qi,_,yp,oq,hts,htz,p8,hz1⟩:=li (P:=P) (t:=el) rfl hel;rw[ln]at qi;cases qi;subst un;have hb:ie.bytes<=2048:=qfb;have iz:∀v,v∈ze.cells.toList->qkx v=qnx (ul v)/\zOk v=true:=λv hv=>by grind[qjk,xcf]
 have my:ze.cells.toList.map qkx=zr:=qfj;refine jfo s k g1 hd1 hlt1 hop1 pw ln yp p8 hpos hb (λv hv=>(iz v hv).2) hx hxv hn ?_;rw[my];exact uy
end
section
variable {P:Program} {E:Ent}
theorem jb0{c:Ctx}{h:g9}{w:World}(s:HSim c h w)(k:E.ok c h w){e:TypeId}{sz n b:Nat}{cur:Array Value}{rows:List (List AV)}(hb0:E.w.heap.size<=b)(qvs:w.heap[b]?=some (.cells cur e))
  (qnw:∀i o,h[i]?=some o->je c i o≠some b) (qv6:∀j,c.D b j=none) (hn:rows.length=n) (jm:n<=68719476736) (my:∀r,r∈rows->r.length=sz) (hsize:cur.size=n * sz)
  (hus:∀(i' j:Nat) (r:List AV) (x:AV),rows[i']?=some r->r[j]?=some x->∃u,(cur.toList.take (n * sz))[i' * sz+j]?=some u/\DRel c.D x u) :
  c.le (c.addSl h.length n (.slice (some ⟨b,0,none⟩) n n))/\HSim (c.addSl h.length n (.slice (some ⟨b,0,none⟩) n n)) (h++[.uarr e sz rows]) w/\E.ok (c.addSl h.length n (.slice (some ⟨b,0,none⟩) n n)) (h++[.uarr e sz rows]) w:=by
 obtain⟨v0,hv0⟩:∃v0,v0=Value.slice (some ⟨b,0,none⟩) n n:=⟨_,rfl⟩
 rw[<-hv0];have ij:c.le (c.addSl h.length n v0):=Ctx.addSl_le ((s.dom _ (cn _)).2 n);have na:∀i,i<h.length->∀m,(c.addSl h.length n v0).sl i m=c.sl i m:=λi hi m=>by grind[Ctx.addSl]
 have il:∀{i:Nat} {o:AObj},h[i]?=some o->i<h.length:=λhi=>(cm.1 hi).1;have ue:je (c.addSl h.length n v0) h.length (.uarr e sz rows)=some b:=qij;refine⟨ij,⟨s.data,λi hi=>?_,λi o hi=>?_,λi j o o' b' hi hj hb iq=>?_,λi o b' j v hi hb hD=>?_⟩,⟨k.edom,k.ext.trans ij,k.blk0,qe1,k.os,k.tape,k.output,k.size,k.frame,λi o b' hi hb=>?_,k.dold⟩⟩
 .simp only[c7,dy,ed]at hi;have:=s.dom i aa;refine⟨this.1,λm=>?_⟩;simp only[Ctx.addSl];rw[if_neg aa];exact this.2 m
 .rcases oy hi with h1|⟨rfl,rfl⟩
  .exact(s.obj i o h1).keep ij (na i (il h1)) λ_ _=>rfl
  .refine⟨v0,cur.toList.take (n * sz),by simp[Ctx.addSl,hn],qil,λm hm=>?_,?_,aa,my,hus⟩
   .simp only[Ctx.addSl];rw[if_neg aa];exact(s.dom _ (cn _)).2 m
   .rw[hv0,hn];refine⟨?_,.inr ⟨b,n,cur,rfl,dq _,qvs,cn _,qha,hsize,rfl⟩⟩;rw[ey,qjy,hsize];exact fm (cn _)
 .rcases oy hi with h1|⟨rfl,rfl⟩<;>rcases oy hj with h2|⟨rfl,rfl⟩
  .rw[(s.obj i o h1).blk ij]at hb;rw[(s.obj j o' h2).blk ij]at iq;exact s.apart i j o o' b' h1 h2 hb iq
  .rw[ue]at iq;rw[(s.obj i o h1).blk ij]at hb;cases iq;exact(qnw i o h1 hb).elim
  .rw[ue]at hb;rw[(s.obj j o' h2).blk ij]at iq;cases hb;exact(qnw j o' h2 iq).elim
  .rfl
 .have o7:c.D b' j=some v:=hD;rcases oy hi with h1|⟨rfl,rfl⟩
  .rw[(s.obj i o h1).blk ij]at hb;exact s.sep i o b' j v h1 hb o7
  .grind
 .rcases oy hi with h1|⟨rfl,rfl⟩
  .rw[(s.obj i o h1).blk ij]at hb;exact k.newobj i o b' h1 hb
  .grind
inductive MK where
 |val
 |arr (el sz n:Nat) (zr:List AV)
 |cell (xs:List AV)
 |copy (t:Tmp)
def MK.made:MK->Bool
 | .val=>false
 | .copy _=>false
 |_=>true
def qoq(P:Program)(N:Nat)(o:Oper)(e:Env)(K:MK->DR->Prop):Prop :=
 o.guard=none/\zj N o.dst/\match o.op with
 | .makeSlice T x y=>(x=y/\o.dst.isSome=true)/\match im P T,e.getS x with
  | .slice el sz,.val (.int .i64 n)=>im P el≠.other/\jd P el=sz/\0<sz/\jq P el<=2048/\(∀x,x∈jh P el->x≠.top)/\me e true [x]/\0<=n/\n<=68719476736/\K (.arr el sz n.toNat ((jh P el).map qnx)) ⟨o.dst,.top,.quiet none⟩
  |_,_=>False
 | .alloc T=>(im P T≠.other/\o.dst.isSome=true)/\K (.cell (jh P T)) ⟨o.dst,.top,.quiet none⟩
 | .pick ..=>False
 | .assign (.tmp t)=>match ji e.t t with
  | .top=>o.dst.isSome=true/\K (.copy t) ⟨o.dst,.top,.quiet none⟩
  |_=>me e true [.tmp t]/\(qg P e.getS e.h (.assign (.tmp t))).side/\K .val ⟨o.dst,(qg P e.getS e.h (.assign (.tmp t))).val,.quiet none⟩
 |op=>u9 op=false/\me e true op.operands.toList/\(qg P e.getS e.h op).side/\K .val ⟨o.dst,(qg P e.getS e.h op).val,.quiet none⟩
def qzy(P:Program)(N:Nat):List Oper->Env->List MK->(List MK->Env->Prop)->Prop
 | [],e,iw,K=>K iw e
 |o::l,e,iw,K=>qoq P N o e λm r=>qzy P N l (e.put r.dst r.res) (iw++[m]) K
def qmd(e:Env)(o:Oper):MK->Env
 | .val=>e
 | .arr el sz n zr=>({ e with h:=e.h++[.uarr el sz (List.replicate n zr)] }:Env).put o.dst (.own e.h.length n)
 | .cell xs=>({ e with h:=e.h++[.cells xs] }:Env).put o.dst (.ptr e.h.length 0)
 | .copy t=>e.put o.dst (ji e.t t)
def qlv:List Oper->List MK->Env->Env
 |o::l,m::ms,e=>qlv l ms (qmd e o m)
 |_,_,e=>e
theorem xyx{N:Nat}{o:Oper}{e:Env}{K:MK->DR->Prop}(h:qoq P N o e K):∃m r,qoq P N o e (λm' r'=>m'=m/\r'=r)/\K m r:=by
 unfold qoq at h|-;obtain⟨hg,hd,h⟩:=h;split at h
 .grind
 .grind
 .grind
 .grind
 .grind
theorem qz1{N:Nat}{o:Oper}{e:Env}{m:MK}{r:DR}(h:qoq P N o e (λm' r'=>m'=m/\r'=r)):r.k=.quiet none/\r.dst=o.dst:=by grind[qoq]
theorem xnq{N:Nat}{o:Oper}{e:Env}{t:Tmp}{r:DR}(h:qoq P N o e (λm' r'=>m'=.copy t/\r'=r)):o.op=.assign (.tmp t):=by grind[qoq]
def xce(l:List Oper):Bool:=(List.range l.length).all λk=>match l[k]? with
 |some o=>match o.op with
  | .assign (.tmp t)=>(List.range l.length).all λj=>match l[j]? with
   |some o'=>o'.dst != some t||decide (j<k)
   |none=>true
  |_=>true
 |none=>true
theorem jbp{l:List Oper}(h:xce l=true){k j:Nat}{o o':Oper}{t:Tmp}(hk:l[k]?=some o)(ho:o.op=.assign (.tmp t))(hj:l[j]?=some o')(hd:o'.dst=some t):j<k:=by grind[dr,xce]
theorem xjq{r:DR}{e:Env}(h:r.k=.quiet none):r.next e=e.put r.dst r.res:=by grind[DR.next]
theorem xnu{N:Nat}:∀{l:List Oper} {e:Env} {iw:List MK} {K:List MK->Env->Prop},qzy P N l e iw K ->
  ∃(R:List DR) (ms:List MK),R.length=l.length/\ms.length=l.length/\(∀(k:Nat) (o:Oper),l[k]?=some o->∃m r,ms[k]?=some m/\R[k]?=some r/\qoq P N o (jb e (R.take k)) λm' r'=>m'=m/\r'=r)/\K (iw++ms) (jb e R)
 | [],e,iw,K,h=>⟨[],[],rfl,rfl,ac,by simpa[jb,qzy]using h⟩
 |o::l,e,iw,K,h=>by
  obtain⟨m,r,h1,h2⟩:=xyx h;obtain⟨R,ms,hl,hm,hk,hK⟩:=xnu h2;have hq:=xjq (e:=e) (qz1 h1).1;refine⟨r::R,m::ms,qgk,by simp[hm],λk o' ho=>?_,?_⟩
  .cases k with
   |zero =>
    simp at ho;subst ho;exact⟨m,r,rfl,rfl,by simpa[jb]using h1⟩
   |succ k =>
    obtain⟨m',r',g1,g2,g3⟩:=hk k o' af;exact⟨m',r',by simpa using g1,by simpa using g2,by simpa[jb,hq]using g3⟩
  .grind[jb]
def MadeAt(c:Ctx)(w:World)(s0:Nat):MK->Nat->Value->Prop
 | .val,_,_=>True
 | .arr el sz n zr,b,v=>v=.slice (some ⟨b,0,none⟩) n n/\s0<=b/\n<=68719476736/\zr.length=sz/\∃cur,w.heap[b]?=some (.cells cur el)/\cur.size=n * sz /\
   ∀(i' j:Nat) (r:List AV) (x:AV),(List.replicate n zr)[i']?=some r->r[j]?=some x->∃u,(cur.toList.take (n * sz))[i' * sz+j]?=some u/\DRel c.D x u
 | .copy _,_,_=>True
 | .cell xs,b,v=>v=.pointer (some ⟨b,0,none⟩)/\s0<=b/\∃vs T,w.heap[b]?=some (.cells vs T)/\qp0 c xs vs
theorem MadeAt.lt{c:Ctx}{w:World}{s0 b:Nat}{m:MK}{v:Value}(hm:m.made=true)(h:MadeAt c w s0 m b v):b<w.heap.size/\s0<=b:=by
 cases m with
 |val=>cases hm
 |copy t=>cases hm
 |arr el sz n zr =>
  obtain⟨_,h0,_,_,cur,h1,_⟩:=h;exact⟨(fv.1 h1).1,h0⟩
 |cell xs =>
  obtain⟨_,h0,vs,T,h1,_⟩:=h;exact⟨(fv.1 h1).1,h0⟩
theorem MadeAt.keep{c:Ctx}{w w':World}{s0 b:Nat}{m:MK}{v:Value}(h:MadeAt c w s0 m b v)(hw:∀b,b<w.heap.size->w'.heap[b]?=w.heap[b]?):MadeAt c w' s0 m b v:=by
 cases m with
 |val=>trivial
 |copy t=>trivial
 |arr el sz n zr =>
  have hl:=(MadeAt.lt rfl h).1;obtain⟨a,b',d,e,cur,h1,h2⟩:=h;exact⟨a,b',d,e,cur,by rw[hw _ hl];exact h1,h2⟩
 |cell xs =>
  have hl:=(MadeAt.lt rfl h).1;obtain⟨a,b',vs,T,h1,h2⟩:=h;exact⟨a,b',vs,T,by rw[hw _ hl];exact h1,h2⟩
structure MReg(P:Program)(E:Ent)(l:List Oper)(e0:Env)(R:List DR)(ms:List MK):Prop where
 ok:DrawOk l
 len:R.length=l.length
 mlen:ms.length=l.length
 step:∀(k:Nat) (o:Oper),l[k]?=some o->∃m r,ms[k]?=some m/\R[k]?=some r/\qoq P E.N o (jb e0 (R.take k)) λm' r'=>m'=m/\r'=r
structure MInv(E:Ent)(s0:Nat)(e0:Env)(l:List Oper)(R:List DR)(ms:List MK)(c:Ctx)(X:Nat->Bool)(a:Act)(w:World):Prop where
 defers:a.defers=[]
 size:a.tmps.size=E.N
 tmps:∀t,Rel c (ur X t 0 R (ji e0.t t)) (a.tmps.getD t undef)
 hs:HSim c e0.h w
 ok:E.ok c e0.h w
 copies:∀k o t d,X k=true->l[k]?=some o->ms[k]?=some (.copy t)->o.dst=some d->(∀j o',l[j]?=some o'->o'.dst=some t->j<k)->a.tmps.getD d undef=a.tmps.getD t undef
 made:∃B:Nat->Nat,(∀k o m d,X k=true->l[k]?=some o->ms[k]?=some m->m.made=true->o.dst=some d->MadeAt c w s0 m (B k) (a.tmps.getD d undef)) /\
  (∀k k' o o' m m',X k=true->X k'=true->l[k]?=some o->l[k']?=some o'->ms[k]?=some m->ms[k']?=some m'->m.made=true->m'.made=true->o.dst≠none->o'.dst≠none->B k=B k'->k=k')
theorem HSim.alloc{c:Ctx}{h:g9}{w:World}(s:HSim c h w)(o:Obj):HSim c h (w.alloc o):=s.ext (λb hb=>by first|exact heap_alloc_old w _ b hb|exact heap_alloc_old w _ hb) (.refl c) (λ_ _=>rfl) (λ_ _ _ h=>.inl h) s.dom
theorem Ent.ok.alloc{c:Ctx}{h:g9}{w:World}(k:E.ok c h w)(s:HSim c h w)(o:Obj):E.ok c h (w.alloc o):=k.ext' s (λb hb=>by first|exact heap_alloc_old w _ b hb|exact heap_alloc_old w _ hb) (.refl c) (λ_=>rfl) rfl rfl rfl (qdy w _) (λ_ _ _ h=>.inl h)
theorem jg3{s0:Nat}{l:List Oper}{e0:Env}{R:List DR}{ms:List MK}(d:MReg P E l e0 R ms){c:Ctx}{X:Nat->Bool}(ki:qku l X){a:Act}{w:World}(hs0:s0<=w.heap.size)(inv:MInv E s0 e0 l R ms c X a w){i:Nat}{o:Oper}(hi:l[i]?=some o)(pn:X i=false)
  (rk:∀e,e∈o.after->Region.binds .any e=true->X e.on=true) {Q:Exit->Act->World->Prop} :
  wpOp P l.toArray Q i (λa' w'=>s0<=w'.heap.size/\MInv E s0 e0 l R ms c (λj=>if j=i then true else X j) a' w') a w:=by
 obtain⟨m,r,hm,hr,kn⟩:=d.step i o hi;obtain⟨hrk,hrd⟩:=qz1 kn;have ww:∀{k:Nat} {r:DR},R[k]?=some r->∃o,l[k]?=some o/\r.dst=o.dst:=λ{k r} hk=>by
  have il:k<l.length:=by rw[<-d.len];exact(cm.1 hk).1
  obtain⟨_,r',_,h2,h3⟩:=d.step k l[k] bc;rw[hk]at h2;cases h2;exact⟨l[k],bc,(qz1 h3).2⟩
 have qvm:∀t,t∈tmpsOf o.op.operands.toList++quz l o->Rel c (ji (jb e0 (R.take i)).t t) (a.tmps.getD t undef):=by
  intro t ht;have:=inv.tmps t;rw[qx2,xdd];rw[qcu (Y:=X)]
  .exact this
  .intro j r' jf hd;simp only[cz,fa];obtain⟨o',kc,sn⟩:=ww jf;rw[sn]at hd;rcases d.ok.temps i o t j o' hi ht kc hd with rfl|y8
   .simp[pn]
   .rcases qjq j i with h|h|h
    .grind[Nat.min_eq_right,Nat.max_eq_left,qly]
    .grind
    .rw[fm (ez h),Nat.max_eq_right (ez h)]at y8;have hXj:X j=false:=by
      cases hX:X j with
      |false=>rfl
      |true=>have:=qly ki j i o' kc (ki j o' hX kc) y8;rw[pn]at this;cases this
     rw[hXj,decide_eq_false aa]
 have vn:∀x,x∈o.op.operands.toList->Rel c ((jb e0 (R.take i)).get x) (a.eval x):=by
  intro x hx;cases x with
  |tmp t=>exact qvm t (List.mem_append_left _ (by grind[tmpsOf]))
  |const v=>exact xg7 c v
  |global g=>exact .top _
  |func f=>exact .fn _ [] [] #[] #[] rfl rfl ac ac
 have qqx:∀L:List Operand,(∀x,x∈L->x∈o.op.operands.toList)->me (jb e0 (R.take i)) true L->∀x,x∈L->Rel c ((jb e0 (R.take i)).getS x) (a.eval x):=λL hL iz x hx =>
  qym (vn x (hL x hx)) (xc0 iz x hx)
 have hh0:(jb e0 (R.take i)).h=e0.h:=by
  have:∀(R:List DR) (e:Env),(∀r∈R,r.k=.quiet none)->(jb e R).h=e.h:=λR=>by
   induction R with
   |nil=>intro e _;rfl
   |cons r R ih =>
    intro e h;show(jb (r.next e) R).h=e.h;rw[ih _ λr hr=>h r qfo,xjq (h r ac)];cases r.dst<;>rfl
  refine this _ _ λr hr=>?_;obtain⟨k,hk⟩:=da (qi7 hr);obtain⟨o',kc,_⟩:=ww hk;obtain⟨_,r',_,h2,h3⟩:=d.step k o' kc;rw[hk]at h2;cases h2;exact(qz1 h3).1
 obtain⟨hg,hdok,lf⟩:=kn;have px:(l.toArray)[i]?=some o:=af
 -- the slots behind a value
 have tm:∀(u:Value),Rel c r.res u->∀t,Rel c (ur (λj=>if j=i then true else X j) t 0 R (ji e0.t t)) ((a.put o.dst u).tmps.getD t undef):=λu hu t=>by
  have h1:=qxx (X:=X) (t:=t) (k:=0) (x:=ji e0.t t) hr (λj r' jf hd hn=>by
   obtain⟨o',kc,sn⟩:=ww jf;exact d.ok.uniq i o j o' hi kc af af)
  simp only[cz]at h1;rw[h1];cases ww:o.dst with
  |none =>
   rw[hrd,ww,if_neg ac];exact inv.tmps t
  |some dd =>
   have il:dd<a.tmps.size:=qgh;rw[hrd,ww];by_cases hdt:dd=t
   .subst hdt;rw[if_pos rfl];simpa[Act.put,il]using hu
   .rw[if_neg af];have:=inv.tmps t;simpa[Act.put,dz,gg hdt]using this
 have xtm:∀(u:Value) (k:Nat) (o':Oper) (dd:Nat),k≠i->l[k]?=some o'->o'.dst=some dd->(a.put o.dst u).tmps.getD dd undef=a.tmps.getD dd undef:=λu k o' dd hk kc sn=>by
  cases ww:o.dst with
  |none=>rfl
  |some d2 =>
   have:d2≠dd:=λe=>hk (d.ok.uniq i o k o' hi kc af af);simp[Act.put,dz,gg this]
 have slotNew:∀(u:Value) (dd:Nat),o.dst=some dd->(a.put o.dst u).tmps.getD dd undef=u:=λu dd sn=>by
  have il:dd<a.tmps.size:=by rw[inv.size];rw[sn]at hdok;exact hdok
  rw[sn];simp[Act.put,il]
 have pd:∀u:Value,(a.put o.dst u).defers=[]:=λu=>by cases o.dst<;>exact inv.defers
 have ps:∀u:Value,(a.put o.dst u).tmps.size=E.N:=λu=>by cases o.dst<;>simp[Act.put,inv.size]
 obtain⟨B,hB1,hB2⟩:=inv.made;have cp:∀u:Value,(∀t,m=.copy t->u=a.tmps.getD t undef)->∀k o' t dd,(if k=i then true else X k)=true->l[k]?=some o'->ms[k]?=some (.copy t)->o'.dst=some dd->(∀j o2,l[j]?=some o2->o2.dst=some t->j<k)->(a.put o.dst u).tmps.getD dd undef=(a.put o.dst u).tmps.getD t undef:=λu hu k o' t dd hX kc og sn kn=>by
  have other:o.dst≠some t->(a.put o.dst u).tmps.getD t undef=a.tmps.getD t undef:=λit=>by
   cases ww:o.dst with
   |none=>rfl
   |some d2 =>
    have:d2≠t:=λe=>it af;simp[Act.put,dz,gg this]
  by_cases hk:k=i
  .grind
  .rw[if_neg hk]at hX;rw[xtm u k o' dd hk kc sn];have it:o.dst≠some t:=λh=>by
    have hik:=kn _ _ hi h;obtain⟨m3,r3,g1,_,g3⟩:=d.step k o' kc;rw[og]at g1;cases g1;have hasg:=xnq g3;have ht:t∈tmpsOf o'.op.operands.toList++quz l o':=by
     rw[hasg];exact List.mem_append_left _ (by simp[tmpsOf,Op.operands])
    rcases d.ok.temps k o' t i o kc ht hi h with e|y8
    .omega
    .rw[Nat.min_eq_right (ez hik),Nat.max_eq_left (ez hik)]at y8;have:=qly ki k i o' kc (ki k o' hX kc) y8;rw[pn]at this;cases this
   rw[other it];exact inv.copies k o' t dd hX kc og sn kn
 -- an operation that makes something
 have mk:∀(u:Value) (ob:Obj),m.made=true->r.res=.top->(execOp a.eval o).run P w=.ok (.value u) (w.alloc ob)->MadeAt c (w.alloc ob) s0 m w.heap.size u ->
   wpOp P l.toArray Q i (λa' w'=>s0<=w'.heap.size/\MInv E s0 e0 l R ms c (λj=>if j=i then true else X j) a' w') a w:=λu ob hmm hres jk hat=>by
  unfold wpOp;simp only[px];rw[if_pos qh0];refine .inl (vj jk ⟨dv hs0 (qdy w _),pd u,ps u,tm u (by rw[hres];exact .top _),inv.hs.alloc _,inv.ok.alloc inv.hs _,cp u (λt e=>by rw[e]at hmm;cases hmm),λk=>if k=i then w.heap.size else B k,λk o' m' dd hX kc og hmd sn=>?_,λk k' o1 o2 m1 m2 hX hX' xx ho2 hm1 xv hmd1 hmd2 hn1 hn2 he=>?_⟩)
  .by_cases hk:k=i
   .grind
   .simp only[if_neg hk]at hX|-;rw[xtm u k o' dd hk kc sn];exact(hB1 k o' m' dd hX kc og hmd sn).keep λb hb=>by first|exact heap_alloc_old w _ b hb|exact heap_alloc_old w _ hb
  .have blt:∀k o' m',k≠i->(if k=i then true else X k)=true->l[k]?=some o'->ms[k]?=some m'->m'.made=true->o'.dst≠none->B k<w.heap.size:=λk o' m' hk hX kc og hmd hn=>by
    rw[if_neg hk]at hX;obtain⟨dd,hdd⟩:=Option.ne_none_iff_exists'.1 hn;exact((hB1 k o' m' dd hX kc og hmd hdd).lt hmd).1
   by_cases hk:k=i
   .grind
   .by_cases kb:k'=i
    .grind
    .grind
 have still:∀(u:Value),m.made=false->(execOp a.eval o).run P w=.ok (.value u) w->Rel c r.res u->(∀t,m=.copy t->u=a.tmps.getD t undef) ->
   wpOp P l.toArray Q i (λa' w'=>s0<=w'.heap.size/\MInv E s0 e0 l R ms c (λj=>if j=i then true else X j) a' w') a w:=λu hmf jk hu hcu=>by
  unfold wpOp;simp only[px];rw[if_pos qh0];refine .inl (vj jk ⟨hs0,pd u,ps u,tm u hu,inv.hs,inv.ok,cp u hcu,B,λk o' m' dd hX kc og hmd sn=>?_,λk k' o1 o2 m1 m2 hX hX' xx ho2 hm1 xv hmd1 hmd2 hn1 hn2 he=>?_⟩)
  .grind
  .have hki:k≠i:=λe=>by subst e;rw[hm]at hm1;cases hm1;rw[hmf]at hmd1;cases hmd1
   have hki':k'≠i:=λe=>by subst e;rw[hm]at xv;cases xv;rw[hmf]at hmd2;cases hmd2
   simp only[if_neg hki,if_neg hki']at hX hX';exact hB2 k k' o1 o2 m1 m2 hX hX' xx ho2 hm1 xv hmd1 hmd2 hn1 hn2 he
 split at lf
 .rename_i T x y qt9;obtain⟨⟨rfl,_⟩,lf⟩:=lf;split at lf
  .rename_i el sz n hT hxv;obtain⟨hel,hsize,hpos,hbytes,hzt,iz,hn0,hn1,rfl,rfl⟩:=lf;obtain⟨n,rfl⟩:=Int.eq_ofNat_of_zero_le hn0;have mq:=qqx [x] (by rw[qt9];simp[Op.operands]) iz x ac;rw[hxv]at mq;have hvx:a.eval x=.int .i64 n:=mq.val_inv;obtain⟨iT,dT,zT,_,pw,_,ua,_⟩:=li hT ac;obtain⟨rfl,ie,ln,un⟩:=vh ua;obtain⟨ie',de,ze,qi,_,yp,oq,hts,htz,p8,hz1⟩:=li (P:=P) (t:=el) rfl hel;rw[ln]at qi;cases qi;subst un;have hb:ie.bytes<=2048:=qfb;have hzall:∀v,v∈ze.cells.toList->qkx v=qnx (ul v)/\zOk v=true:=λv hv=>by grind[qjk,xcf]
   have my:(jh P el).map qnx=ze.cells.toList.map qkx:=qfj;have hn2:n<=68719476736:=aa;have hbb:ie.bytes * n<=2048 * 68719476736:=qjh hb hn2;have jk:=run_make (P:=P) w T el ie ze pw ln yp .i64 .i64 (n:Int) (n:Int) aa (Int.le_refl _) (by
    have:(ie.bytes:Int) * (n:Int)=((ie.bytes * n:Nat):Int):=ac;omega) aa
   simp only[qke]at jk;have qxm:∀m,m<n * ie.size->(madeCells ze.cells (n * ie.size))[m]?=ze.cells[m % ie.size]?:=λm hm=>by
    unfold madeCells;rw[fy];simp only[Array.getElem?_range,hm,if_true,e8,p8];have:m % ie.size<ze.cells.size:=by rw[p8];exact Nat.mod_lt _ hpos
    rw[fi this,getElem!_pos ze.cells (m % ie.size) this]
   refine mk (.slice (some ⟨w.heap.size,0,none⟩) n n) (.cells (madeCells ze.cells (n * ie.size)) el) rfl rfl (by simp only[execOp,qt9,hvx,c8,jk,c9,dm]) ?_;simp only[Int.ofNat_eq_natCast,qke];refine⟨rfl,hs0,hn2,by rw[my];simp[p8],_,heap_alloc_new w _,by simp[madeCells],?_⟩;intro i' j r x' hr nw;have mw:i'<n:=af;rw[qkf,if_pos mw]at hr;cases hr;rw[my,di]at nw;obtain⟨u,hu,rfl⟩:=db.1 nw;have hj:j<ie.size:=af;have il:i' * ie.size+j<n * ie.size:=by
    have:(i'+1) * ie.size<=n * ie.size:=dx _ mw;rw[Nat.succ_mul]at this;omega
   refine⟨u,?_,xdy (hzall u (cv hu)).2⟩;rw[dt,if_pos il,fb,qxm _ il];have:(i' * ie.size+j) % ie.size=j:=qe7;rw[this,<-fb];exact hu
  .grind
 .rename_i T qt9;obtain⟨⟨hk,_⟩,rfl,rfl⟩:=lf;obtain⟨iT,dT,z,h1,h2,h3,h4,h5,h6,h7,h8⟩:=li (P:=P) (t:=T) rfl hk;have yt:(zeroValue T).run P w=.ok z w:=qfn;refine mk (.pointer (some ⟨w.heap.size,0,none⟩)) (.cells z.cells T) rfl rfl (by simp only[execOp,qt9,Instr.alloc,newVar,newRow,c8,yt,qck,dm,c9]) ?_;exact⟨rfl,hs0,_,T,heap_alloc_new w _,by rw[h6];exact xfz c h8⟩
 .grind
 .rename_i t qt9;split at lf
  .obtain⟨_,rfl,rfl⟩:=lf;have jk:(execOp a.eval o).run P w=.ok (.value (a.tmps.getD t undef)) w:=by simp only[execOp,qt9,dm];rfl
   exact still _ rfl jk (.top _) (λt' e=>by cases e;rfl)
  .obtain⟨iz,iu,rfl,rfl⟩:=lf;have jr:=qqx [.tmp t] (by rw[qt9];simp[Op.operands]) iz;rw[hh0]at iu;obtain⟨u,jk,hu⟩:=xct (o:=o) inv.hs (by rw[qt9];simpa[Op.operands]using jr) (by rw[qt9];exact iu);exact still u rfl jk af (λt' e=>by cases e)
 .obtain⟨heff,iz,iu,rfl,rfl⟩:=lf;have jr:=qqx _ (λx hx=>hx) iz;rw[hh0]at iu;obtain⟨u,jk,hu⟩:=xct inv.hs jr iu;exact still u rfl jk af (λt' e=>by cases e)
theorem xrx{N:Nat}{o:Oper}{e:Env}{m:MK}{r:DR}(h:qoq P N o e (λm' r'=>m'=m/\r'=r))(hm:m.made=true):o.dst≠none:=by
 unfold qoq at h;obtain⟨hg,hd,h⟩:=h;split at h
 .grind
 .grind
 .grind
 .split at h
  .grind
  .obtain⟨_,_,rfl,_⟩:=h;cases hm
 .obtain⟨_,_,_,rfl,_⟩:=h;cases hm
theorem xqy{l:List Oper}{m:Nat}(hm:m<=l.length)(t:TailOk m l)(hgd:∀(i:Nat) (o:Oper) (j:Nat) (want:Bool),(l.take m)[i]?=some o->o.guard=some (j,want)->j<i){Q:Exit->Act->World->Prop}(Inv:(Nat->Bool)->Act->World->Prop)
  (qmz:∀X a w i o,qku (l.take m) X->Inv X a w->(l.take m)[i]?=some o->X i=false->(∀e,e∈o.after->Region.binds .any e=true->X e.on=true)->wpOp P (l.take m).toArray Q i (λa' w'=>Inv (λj=>if j=i then true else X j) a' w') a w)
  (hQ:∀X a w,(∀j,j<m->X j=true)->Inv X a w->wpList P l.toArray Q (l.drop m) a w) :
  ∀(kh:Nat) (L:Array Bool),L.size=l.length->(∀j,m<=j->L.getD j false=false)->L.toList.count false<=kh->qku l (λj=>L.getD j false)->∀(a:Act) (w:World),Inv (λj=>L.getD j false) a w->wpAny P .any l.toArray Q kh L a w:=by
 intro kh;have qq3:∀(L:Array Bool),(∀j,m<=j->L.getD j false=false)->(∀j,j<m->L.getD j false=true)->∀j,j<l.length->(L.getD j false=true↔j<m):=λL nl iz j _=>by grind
 have qr8:∀(k:Nat) (L:Array Bool),L.size=l.length->(∀j,k<=j->L.getD j false=false)->k<=l.length->l.length - k<=L.toList.count false:=λk L hL hk hkl=>by
  have h1:(L.toList.drop k).count false=l.length - k:=by
   have h2:(L.toList.drop k).count false=(L.toList.drop k).length:=List.count_eq_length.2 λb hb=>by
    obtain⟨j,hj⟩:=da hb;rw[ew]at hj;have:=hk (k+j) aa;simp only[dz]at this;rw[<-fb,hj]at this;simpa using this.symm
   rw[h2];simp[hL]
  have h3:(L.toList.drop k).Sublist L.toList:=qka _ _;have:=h3.count_le false;omega
 induction kh with
 |zero =>
  intro L hL nl hc ki a w inv;by_cases iz:∀j,j<m->L.getD j false=true
  .have:=qr8 m L hL nl hm;exact qyb t 0 m L (cn _) hm hL (qq3 L nl iz) aa a w (hQ _ a w iz inv)
  .obtain⟨i,h1,h2,_⟩:=quv iz;have:=xei (L:=L) (i:=i) aa h2;omega
 |succ kh ih =>
  intro L hL nl hc ki a w inv;by_cases iz:∀j,j<m->L.getD j false=true
  .have:=qr8 m L hL nl hm;exact qyb t (kh+1) m L (cn _) hm hL (qq3 L nl iz) aa a w (hQ _ a w iz inv)
  .obtain⟨i0,g1,g2,g3⟩:=quv iz;refine⟨λhr=>?_,λi hi=>?_⟩
   .have:=xbt t.after hL (i:=i0) aa g2 g3;rw[hr]at this;cases this
   .obtain⟨o,h1,h2,h3⟩:=qy4 hi;have il:i<L.size:=af;have hLi:L.getD i false=false:=af;have him:i<m:=by
     rcases ei i m with h4|h4
     .exact h4
     .have:=qly ki i i0 o h1 h3 (t.ord i i0 h4 aa aa);rw[show L.getD i0 false=false from g2]at this;cases this
    have mz:(l.take m)[i]?=some o:=af;have qvv:qku (l.take m) λj=>L.getD j false:=λj o' hj kc e he hb=>by
     have hjm:j<m:=af;rw[dt,if_pos hjm]at kc;exact ki j o' hj kc e he hb
    refine xc9 him (λo' j want kc hg=>?_) (wpOp_mono ?_ (qmz _ a w i o qvv inv mz hLi h3))
    .grind
    .rintro a' w' inv';rw[qrf il]at inv';refine ih _ af (λj hj=>?_) ?_ (xff il h1 h3 ki) a' w' inv'
     .have hf:=congrFun (qrf il) j;rw[<-hf,if_neg aa];exact nl j hj
     .grind[xb6]
theorem xn9{o:Oper}{m:MK}:∀{l:List Oper} {ms:List MK} {e:Env},ms.length=l.length->qlv (l++[o]) (ms++[m]) e=qmd (qlv l ms e) o m
 | [],[],e,_=>rfl
 |_::_,[],_,h=>by cases h
 | [],_::_,_,h=>by cases h
 |o'::l,m'::ms,e,h=>by simp_all[qix,qlv,xn9]
theorem xwj{s0:Nat}{l:List Oper}{e0:Env}{R:List DR}{ms:List MK}(d:MReg P E l e0 R ms){c:Ctx}{X:Nat->Bool}(iz:∀j,j<l.length->X j=true){a:Act}{w:World}(inv:MInv E s0 e0 l R ms c X a w)
  (hE0:E.w.heap.size<=s0) (xa3:∀i o b,e0.h[i]?=some o->je c i o=some b->b<s0) (hD:∀b j v,c.D b j=some v->b<s0) (hcB:xce l=true) :
  ∃c',Sim E.N c' (qlv l ms (jb e0 R)) a w/\E.ok c' (qlv l ms (jb e0 R)).h w:=by
 obtain⟨B,hB1,hB2⟩:=inv.made;have hq:∀r∈R,r.k=.quiet none:=λr hr=>by
  obtain⟨k,hk⟩:=da hr;have il:k<l.length:=by rw[<-d.len];exact(cm.1 hk).1
  obtain⟨_,r',_,h2,h3⟩:=d.step k l[k] bc;rw[hk]at h2;cases h2;exact(qz1 h3).1
 have hh0:(jb e0 R).h=e0.h:=by
  have:∀(R:List DR) (e:Env),(∀r∈R,r.k=.quiet none)->(jb e R).h=e.h:=λR=>by
   induction R with
   |nil=>intro e _;rfl
   |cons r R ih =>
    intro e h;show(jb (r.next e) R).h=e.h;rw[ih _ λr hr=>h r qfo,xjq (h r ac)];cases r.dst<;>rfl
  exact this R e0 hq
 have key:∀k,k<=l.length->∃c',c.le c'/\c'.D=c.D/\Sim E.N c' (qlv (l.take k) (ms.take k) (jb e0 R)) a w/\E.ok c' (qlv (l.take k) (ms.take k) (jb e0 R)).h w /\
   ∀i o b,(qlv (l.take k) (ms.take k) (jb e0 R)).h[i]?=some o->je c' i o=some b->b<s0\/∃k' o' m',k'<k/\l[k']?=some o'/\ms[k']?=some m'/\m'.made=true/\o'.dst≠none/\b=B k':=λk=>by
  induction k with
  |zero =>
   intro _;refine⟨c,.refl c,rfl,⟨inv.defers,inv.size,λt=>?_,?_⟩,?_,λi o b hi hb=>.inl ?_⟩
   .have:=inv.tmps t;rw[qcu (Y:=λ_=>true)]at this
    .grind[qlv,qx2]
    .intro j r hr _;rw[cz];exact iz j (by rw[<-d.len];exact(cm.1 hr).1)
   .simp only[qjj,qlv,hh0];exact inv.hs
   .simp only[qjj,qlv,hh0];exact inv.ok
   .grind[qlv]
  |succ k ih =>
   intro hk;obtain⟨c',ij,hcD,s',k',r8⟩:=ih aa;obtain⟨m,r,hm,hr,kn⟩:=d.step k l[k] (cu aa);have se:k<ms.length:=af;have og:ms[k]=m:=af;rw[ec aa,ec se,xn9 af,og];obtain⟨F,hF⟩:∃F,qlv (l.take k) (ms.take k) (jb e0 R)=F:=⟨_,rfl⟩
   rw[hF]at s' k' r8|-;have hXk:=iz k aa;have hlk:l[k]?=some l[k]:=cu aa;have fr:m.made=true->∀(hd:l[k].dst≠none),s0<=B k->(∀i o,F.h[i]?=some o->je c' i o≠some (B k))/\∀j,c'.D (B k) j=none:=λhmd hd hs0=>by
    refine⟨λi o hi hb=>?_,λj=>?_⟩
    .grind
    .rw[hcD];cases hv:c.D (B k) j with
     |none=>rfl
     |some v=>have:=hD _ _ _ hv;omega
   cases m with
   |val=>exact⟨c',ij,hcD,s',k',λi o b hi hb=>(r8 i o b hi hb).imp id λ⟨k2,o2,m2,h1,h2⟩=>⟨k2,o2,m2,aa,h2⟩⟩
   |copy t =>
    have hasg:=xnq kn;have hFh:(qmd F l[k] (.copy t)).h=F.h:=by
     unfold qmd;cases l[k].dst<;>rfl
    refine⟨c',ij,hcD,⟨s'.defers,s'.size,λt'=>?_,by rw[hFh];exact s'.hs⟩,by rw[hFh];exact k',λi o b hi hb=>?_⟩
    .cases hdd:l[k].dst with
     |none =>
      simp only[qmd,hdd,Env.put];exact s'.tmps t'
     |some dd =>
      simp only[qmd,hdd,Env.put,ji];by_cases ht:dd=t'
      .subst ht;simp only[beq_self_eq_true,cond_true];rw[inv.copies k l[k] t dd hXk hlk hm hdd (λj o' kc sn=>jbp hcB hlk hasg kc sn)];exact s'.tmps t
      .have:(dd == t')=false:=by simpa using ht
       simp only[this,cond_false];exact s'.tmps t'
    .rw[hFh]at hi;exact(r8 i o b hi hb).imp id λ⟨k2,o2,m2,h1,h2⟩=>⟨k2,o2,m2,aa,h2⟩
   |arr el sz n zr =>
    have hd:=xrx kn rfl;obtain⟨dd,hdd⟩:=Option.ne_none_iff_exists'.1 hd;obtain⟨hv,hs0,hn,hz,cur,qvs,hsize,hus⟩:=hB1 k l[k] _ dd hXk hlk hm rfl hdd;obtain⟨f1,f2⟩:=fr rfl hd hs0;obtain⟨g1,g2,g3⟩:=jb0 (E:=E) (e:=el) (sz:=sz) (n:=n) (b:=B k) (cur:=cur) (rows:=List.replicate n zr) s'.hs k' aa qvs f1 f2 ac hn (λr hr=>by rw[List.eq_of_mem_replicate hr];exact hz) hsize af;refine⟨_,ij.trans g1,hcD,⟨s'.defers,s'.size,λt=>?_,?_⟩,?_,λi o b hi hb=>?_⟩
    .simp only[qmd,hdd,Env.put,ji];by_cases ht:dd=t
     .subst ht;simp only[beq_self_eq_true,cond_true];rw[hv];exact .own _ _ _ bj rfl
     .have:(dd == t)=false:=by simpa using ht
      simp only[this,cond_false];exact(s'.tmps t).mono g1
    .grind[qmd,Env.put]
    .grind[qmd,Env.put]
    .simp only[qmd,hdd,Env.put]at hi;rcases oy hi with h1|⟨rfl,rfl⟩
     .rw[(s'.hs.obj i o h1).blk g1]at hb;exact(r8 i o b h1 hb).imp id λ⟨k2,o2,m2,h1,h2⟩=>⟨k2,o2,m2,aa,h2⟩
     .refine .inr ⟨k,l[k],_,aa,hlk,hm,rfl,hd,?_⟩;simp[je,Ctx.addSl,Value.ownBlock]at hb;exact hb.symm
   |cell xs =>
    have hd:=xrx kn rfl;obtain⟨dd,hdd⟩:=Option.ne_none_iff_exists'.1 hd;obtain⟨hv,hs0,vs,T,qvs,ki⟩:=hB1 k l[k] _ dd hXk hlk hm rfl hdd;obtain⟨f1,f2⟩:=fr rfl hd hs0;have qq0:c'.le (c'.addBlk F.h.length (B k)):=Ctx.addBlk_le (s'.hs.dom _ (cn _)).1;have nm:∀b',je (c'.addBlk F.h.length (B k)) F.h.length (.cells xs)=some b'->b'=B k:=λb' iq=>by grind[je,Ctx.addBlk,eb]
    have g2:=s'.hs.push (b:=B k) (o:=.cells xs) f1 f2 ⟨B k,vs,T,qfp,qvs,ki.1,λj x v hx hv=>⟨((ki.2 j x v hx hv).1.mono ij).mono qq0,(ki.2 j x v hx hv).2⟩⟩ nm;have g3:=k'.push s'.hs (b:=B k) (o:=.cells xs) aa nm;refine⟨_,ij.trans qq0,hcD,⟨s'.defers,s'.size,λt=>?_,?_⟩,?_,λi o b hi hb=>?_⟩
    .simp only[qmd,hdd,Env.put,ji];by_cases ht:dd=t
     .subst ht;simp only[beq_self_eq_true,cond_true];rw[hv];exact .ptr _ _ _ qfp
     .have:(dd == t)=false:=by simpa using ht
      simp only[this,cond_false];exact(s'.tmps t).mono qq0
    .grind[qmd,Env.put]
    .grind[qmd,Env.put]
    .simp only[qmd,hdd,Env.put]at hi;rcases oy hi with h1|⟨rfl,rfl⟩
     .rw[(s'.hs.obj i o h1).blk qq0]at hb;exact(r8 i o b h1 hb).imp id λ⟨k2,o2,m2,h1,h2⟩=>⟨k2,o2,m2,aa,h2⟩
     .exact .inr ⟨k,l[k],_,aa,hlk,hm,rfl,hd,nm b hb⟩
 obtain⟨c',_,_,s',k',_⟩:=key l.length (cn _);rw[gw,show ms.take l.length=ms by rw[<-d.mlen,gw]]at s' k';exact⟨c',s',k'⟩
theorem xw9{id:Nat}(m:Nat){l:List Oper}{Q:AExit->Env->Prop}{e:Env}(hm:P.follows .mixedOrders=true)(hB:(decide (m<=l.length)&&qs4 (l.take m)&&qro m l&&xce (l.take m))=true)
  (h:qzy P E.N (l.take m) e [] λms e1=>qks P E.N Q ((l.take m).map (·.dst)) (l.drop m) (qlv (l.take m) ms e1)):AWp P E (.region id l.toArray true) Q e:=λc a w s k=>by
 obtain⟨R,ms,jm,se,qmz,hQ⟩:=xnu h;simp only[ff]at hQ;simp only[cw,decide_eq_true_eq]at hB;obtain⟨⟨⟨hml2,hB⟩,hT⟩,hcB⟩:=hB;have d:MReg P E (l.take m) e R ms:=⟨qx3 hB,jm,se,qmz⟩
 have hll:(l.take m).length=m:=af;refine wp_region_any hm ?_;have jg:HSim c e.h { w with drawn:=w.drawn+1 }:=s.hs.ext (λ_ _=>rfl) (.refl c) (λ_ _=>rfl) (λ_ _ _ h=>.inl h) s.hs.dom;have kb:E.ok c e.h { w with drawn:=w.drawn+1 }:=k.ext' s.hs (λ_ _=>rfl) (.refl c) (λ_=>rfl) rfl rfl rfl (cn _) (λ_ _ _ h=>.inl h);have u4:(λ_=>false)=λj=>(Array.replicate l.toArray.size false).getD j false:=by
  funext j;simp[dz,qj1];split<;>rfl
 have hX0:∀t,ur (λ_=>false) t 0 R (ji e.t t)=ji e.t t:=λt=>qzp (λj r _ h=>by cases h);refine xqy hml2 (xbx hT) (λi o j want hi hg=>d.ok.guard i o j want hi hg) (λX a w'=>w.heap.size<=w'.heap.size/\MInv E w.heap.size e (l.take m) R ms c X a w') (λX a w' i o ki inv hi pn rk=>jg3 d ki inv.1 inv.2 hi pn rk) (λX a w' iz inv=>?_) _ _ ac (λj _=>(congrFun u4 j).symm) ac ?_ a _ ?_
 .obtain⟨c',s',k'⟩:=xwj d (λj hj=>iz j aa) inv.2 (by have:=k.size;exact this) (λi o b hi hb=>(s.hs.obj i o hi).lt hb) (λb j v hv=>World.block_lt_of_cell? w ⟨b,j,none⟩ (s.hs.data b j v hv)) hcB;exact qcq (l.drop m) (l.take m) _ ac hQ c' a w' s' k'
 .intro j o hj;rw[<-u4]at hj;cases hj
 .rw[<-u4];exact⟨cn _,s.defers,s.size,λt=>by rw[hX0];exact s.tmps t,jg,kb,λ_ _ _ _ h=>(Bool.noConfusion h),λ_=>0,⟨λ_ _ _ _ h=>(Bool.noConfusion h),λ_ _ _ _ _ _ h=>(Bool.noConfusion h)⟩⟩
attribute [go_sem] qzy qoq qlv qmd
end
section
variable {P:Program} {E:Ent}
end
end Go.Abs
