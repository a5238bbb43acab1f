/- Part 8 of a proof. -/
import Derived.Test.YtolejdhnnchfpaaGreatDoorQ07
set_option linter.all false
namespace Go.Abs
section
variable {P:Program} {E:Ent}
theorem RelL.app{c:Ctx}{xs ys:List AV}{us vs:Array Value}(h:RelL c xs us)(k:RelL c ys vs):RelL c (xs++ys) (us++vs) :=
 ⟨by simp[h.1,k.1],λj x v hx hv=>by
  by_cases hj:j<xs.length
  .rw[co hj]at hx;rw[qj0 (by rw[h.1];exact hj)]at hv;exact h.2 j x v hx hv
  .rw[cx aa]at hx;rw[Array.getElem?_append_right (by rw[h.1];omega),h.1]at hv;exact k.2 _ x v hx hv⟩
theorem RelL.map{c:Ctx}{g:Operand->AV}{ev:Operand->Value}{l:Array Operand}(hg:∀x,x∈l.toList->Rel c (g x) (ev x)):RelL c (l.toList.map g) (l.map ev) :=
 ⟨ac,(xja hg).2⟩
theorem RelL.norm{c:Ctx}{h:g9}{w:World}(s:HSim c h w){xs:List AV}{vs:Array Value}(k:RelL c xs vs):RelL (c.share h w) (ko h xs) vs :=
 ⟨by rw[qdi];simp[k.1],λj x v hx hv=>by
  rw[qdi]at hx;simp only[di,db]at hx;obtain⟨y,hy,rfl⟩:=hx;exact qdw s (k.2 j y v hy hv)⟩
theorem qws{o:Oper}{ev:Operand->Value}{w:World}{f:Operand}{args:Array Operand}{ts:Array TypeId}(ho:o.op=.call { callee:=.value f,args:=args,argTypes:=ts }){fid:FuncId}{us vs:Array Value}
  (hf:ev f=.func (.func fid) us vs) (hen:qtr P fid):(execOp ev o).run P w=.ok (.enter fid (us++args.map ev++vs)) w:=by
 obtain⟨fn,h1,h2,h3⟩:=hen;have hb:fn.body.isNone=false:=ca;simp only[execOp,ho,resolve,hf,Deferred.ofValue,invoke,callFunc,c8,dm,c9,run_program,h1,h3,hb,qje,if_false]
theorem qck(w:World)(o:Obj):(newObj o).run P w=.ok w.heap.size (w.alloc o):=rfl
theorem xis{c:Ctx}{e:Env}{a:Act}{w:World}(s:Sim E.N c e a w)(k:E.ok c e.h w){o:Oper}{f:Operand}{args:Array Operand}{ts:Array TypeId}(ho:o.op=.call { callee:=.value f,args:=args,argTypes:=ts })
  (iz:me e true (f::args.toList)) {fid:FuncId} {first caps:List AV} (hf:e.getS f=.fn (.func fid) first caps) {R:AEnd->g9->Prop}
  (hc:ACalls P fid (ko e.h (first++args.toList.map e.getS++caps)) e.h R) {next:Act->World->Prop} {Q:Exit->Act->World->Prop}
  (wd:∀v h' c' w' u,R (.ret v) h'->c.le c'->HSim c' h' w'->E.ok c' h' w'->Rel c' v u->next (a.put o.dst u) w')
  (qwb:∀v h' c' w' u,R (.panic v) h'->c.le c'->HSim c' h' w'->E.ok c' h' w'->Rel c' v u->Q (.panic [⟨u,false,false⟩]) a w'):o.wp P a w next Q:=by
 have jr:=rp s iz;have tq:=jr f ac;rw[hf]at tq;obtain⟨us,vs,hev,h1,h2⟩:∃us vs,a.eval f=.func (.func fid) us vs/\RelL c first us/\RelL c caps vs:=by
  generalize a.eval f=z at tq;cases tq with
  |data h=>cases h
  |fn f ys xs us vs po hl h' h=>exact⟨us,vs,rfl,⟨po,h'⟩,⟨hl,h⟩⟩
 have qqg:RelL c (args.toList.map e.getS) (args.map a.eval):=RelL.map λx hx=>jr x bu;have qzi:=(RelL.app (RelL.app h1 qqg) h2).norm s.hs;obtain⟨s1,k1⟩:=qxo s.hs k;unfold Oper.wp;rw[qws ho hev hc.1];refine(hc.2 _ w _ s1 qzi).mono ?_;rintro en w' ⟨r,h',c',hR,hE,jg,kb⟩;have ij:c.le c':=(qww c e.h w).trans kb.ext;have kp:E.ok c' h' w':=k1.trans kb;cases r with
 |ret v =>
  cases en with
  |returned u=>exact wd v h' c' w' u hR ij jg kp hE
  |_=>simp[EndR]at hE
 |panic v =>
  cases en with
  |panicked ch =>
   cases ch with
   |nil=>simp[EndR]at hE
   |cons p l =>
    cases l with
    |nil =>
     obtain⟨u,r,g⟩:=p;cases r<;>cases g<;>simp only[EndR]at hE;exact qwb v h' c' w' u hR ij jg kp hE
    |cons=>simp[EndR]at hE
  |_=>simp[EndR]at hE
theorem xt5{h:g9}{sz:Nat}:∀{k:Nat} {l:List (Nat×AV)} {rows:List (List AV)},qpj h sz k l=some rows ->
  rows.length=l.length/\∀(i:Nat) (p:Nat×AV),l[i]?=some p->p.1=k+i/\p.2.cellsOk=true/\p.2.cells.length=sz/\rows[i]?=some (ko h p.2.cells)/\∀x,x∈ko h p.2.cells->x.isData=true
 |k,[],rows,hr=>by simp only[qpj,eb]at hr;subst hr;simp
 |k,(i,x)::l,rows,hr=>by
  simp only[qpj]at hr;split at hr
  .rename_i hc;obtain⟨rfl,h1,h2,h3⟩:=hc;simp only[db]at hr;obtain⟨rows',jf,rfl⟩:=hr;obtain⟨h4,h5⟩:=xt5 jf;refine⟨by simp[h4],λj p hp=>?_⟩;cases j with
   |zero=>simp at hp;subst hp;exact⟨ac,h1,h2,ac,dr.1 h3⟩
   |succ j =>
    obtain⟨g1,g2⟩:=h5 j p af;exact⟨aa,by simpa using g2⟩
  .cases hr
theorem xbn{c:Ctx}{x:AV}{v:Value}(h:x.isData=true)(hr:Rel c x v):DRel c.D x v:=by
 cases x with
 |val u=>obtain rfl:=hr.val_inv;exact .val v h (qrj hr)
 |slice rows=>exact hr.slice_inv
 |_=>simp[AV.isData]at h
theorem xou{c:Ctx}{h:g9}{w:World}(s:HSim c h w)(k:E.ok c h w){T el sz n:Nat}(hk:im P T=.slice el sz){parts:List (Nat×AV)}{qs:Array (Nat×Value)}(hl:parts.length=qs.size)
  (hpq:∀(j:Nat) (p:Nat×AV) (q:Nat×Value),parts[j]?=some p->qs[j]?=some q->p.1=q.1/\Rel c p.2 q.2) {rows:List (List AV)} (hr:qpj h sz 0 parts=some rows) (hn:rows.length=n) (hpos:0<sz) (h24:n * sz<=16777216)
  (oq:im P el≠.other) (hsize:jd P el=sz) :
  ∃v w' c',(Instr.buildSlice T n qs).run P w=.ok v w'/\c.le c'/\HSim c' h w'/\E.ok c' h w'/\Rel c' (.slice rows) v:=by
 obtain⟨iT,dT,zT,_,pw,_,ua,_⟩:=li hk ac;obtain⟨rfl,ie,ln,un⟩:=vh ua;obtain⟨ie',de,ze,qi,_,yp,_,hts,_,p8,hz1⟩:=li (P:=P) (t:=el) rfl oq;rw[ln]at qi;cases qi;subst un;obtain⟨oz,hspec⟩:=xt5 hr;have hpn:parts.length=n:=aa;have qm:∀xs:List AV,(ko h xs).length=xs.length:=λxs=>by rw[qdi];simp
 -- the zero cells
 let zs:Array Value:=(Array.range (n * ie.size)).map (ze.cells[· % ze.cells.size]!)
 -- filling
 have qv9:∀(m:Nat) (qs':List (Nat×Value)) (cs:Array Value),cs.size=n * ie.size->m+qs'.length=n->(∀j q,qs'[j]?=some q->q.1=m+j/\q.2.cells.size=ie.size) ->
   ∃tf,Instr.fill (λi=>some (i * ie.size,ie.size)) cs qs'=some tf/\tf.size=n * ie.size/\(∀k,k<m * ie.size->tf[k]?=cs[k]?) /\
    ∀j q t u,qs'[j]?=some q->q.2.cells[t]?=some u->tf[(m+j) * ie.size+t]?=some u:=by
  intro m qs'
  induction qs' generalizing m with
  |nil=>intro cs md _ _;exact⟨cs,rfl,md,λ_ _=>rfl,ac⟩
  |cons q qs' ih =>
   intro cs md hm hq;obtain⟨i,v⟩:=q;obtain⟨h1,h2⟩:=hq 0 (i,v) rfl;simp only[ea]at h1 h2;subst h1;have ij:i * ie.size+ie.size<=n * ie.size:=by grind[ee,dx]
   let cs1:=v.cells.zipIdx.foldl (λ(cs:Array Value) (p:Value×Nat)=>cs.setIfInBounds (i * ie.size+p.2) p.1) cs
   have hcs1:cs1=(v.cells.toList.zipIdx 0).foldl (λ(cs:Array Value) (p:Value×Nat)=>cs.setIfInBounds (i * ie.size+p.2) p.1) cs:=by grind[Array.toList_zipIdx]
   obtain⟨g1,g2⟩:=xcq (i * ie.size) v.cells.toList 0 cs;have g2:=g2 af;obtain⟨tf,f1,f2,f3,f4⟩:=ih (i+1) cs1 af af (λj q hq'=>by
    have:=hq (j+1) q af;exact⟨aa,this.2⟩)
   refine⟨tf,?_,f2,λk hk=>?_,λj q t u hq' hu=>?_⟩
   .simp only[Instr.fill];rw[if_neg af];exact f1
   .grind
   .cases j with
    |zero =>
     simp at hq';subst hq';have ht:t<ie.size:=af;have e1:(i+1) * ie.size=i * ie.size+ie.size:=af;rw[ea,f3 _ aa,hcs1,g2,if_pos af];simpa using hu
    |succ j =>
     have:=f4 j q t u af hu;rw[show i+(j+1)=i+1+j from by omega];exact this
 obtain⟨tf,hf1,hf2,_,hf4⟩:=qv9 0 qs.toList zs (by simp[zs]) az (λj q hq=>by
  have hjlt:j<parts.length:=af;obtain⟨e1,e2⟩:=hpq j parts[j] q ac af;obtain⟨p1,p2,p3,_⟩:=hspec j parts[j] ac;exact⟨aa,by rw[(e2.cells p2).1,p3]⟩)
 obtain⟨c',ij,s1,k1,hD⟩:=qzg (E:=E) (qxo s k).1 (qxo s k).2 tf el;have hlit:¬(n * ie.size > 2 ^ 24):=az;have yt:(zeroValue el).run P w=.ok ze w:=qfk;refine⟨.slice (some ⟨w.heap.size,0,none⟩) n n,w.alloc (.cells tf el),c',?_,(qww c h w).trans ij,s1,k1,?_⟩
 .simp only[Instr.buildSlice,c8,ox pw,c9,xl ln,if_neg hlit];by_cases h0:n * ie.size=0
  .have hz0:(Array.range (n * ie.size)).map (λx=>(#[]:Array Value)[x % (#[]:Array Value).size]!)=zs:=by
    simp[zs,h0]
   simp only[h0,if_true,dm,c9,c8];rw[h0]at hz0;simp only[hz0,hf1,newRow,c8,qck,c9,dm]
  .simp only[if_neg h0,c8,yt,c9,dm];have hzz:(Array.range (n * ie.size)).map (λx=>ze.cells[x % ze.cells.size]!)=zs:=rfl;simp only[hzz,hf1,newRow,c8,qck,c9,dm]
 .have mb:∀(i j:Nat) (r:List AV) (x:AV),rows[i]?=some r->r[j]?=some x->∃v,c'.D w.heap.size (i * ie.size+j)=some v/\DRel c'.D x v:=by
   intro i j r x jf hx;have hilt:i<parts.length:=af;obtain⟨p1,p2,p3,p4,p5⟩:=hspec i parts[i] ac;rw[p4]at jf;cases jf;have hqlt:i<qs.size:=aa;obtain⟨e1,e2⟩:=hpq i parts[i] qs[i] ac ac;obtain⟨q1,q2⟩:=e2.cells p2;have nw:=hx;rw[qdi,di,db]at nw;obtain⟨y,hy,hyx⟩:=nw;have hjlt:j<qs[i].2.cells.size:=af;obtain⟨r1,r2⟩:=q2 j y qs[i].2.cells[j] hy ac;have h6:=hf4 i qs[i] j qs[i].2.cells[j] ac ac;rw[cz]at h6;refine⟨_,hD _ _ h6,?_⟩;have h7:=qdw s r1;rw[hyx]at h7;exact(xbn (p5 x (cv hx)) h7).mono ij.D
  have hdr:DRel c'.D (.slice rows) (.slice (some ⟨w.heap.size,0,none⟩) rows.length n):=.slice rows w.heap.size 0 n ie.size (λi j=>(c'.D w.heap.size (i * ie.size+j)).getD undef) (λr jf=>by
    obtain⟨i,hi⟩:=da jf;have hilt:i<parts.length:=af;obtain⟨p1,p2,p3,p4,p5⟩:=hspec i parts[i] ac;rw[p4]at hi;cases hi;rw[qm,p3]) (by
    rw[hn];have:n * 1<=n * ie.size:=Nat.mul_le_mul_left _ hpos;omega) aa (λi j r x jf hx=>by
    obtain⟨v,hv,_⟩:=mb i j r x jf hx;rw[cz,hv];rfl) λi j r x jf hx=>by
    obtain⟨v,hv,hd⟩:=mb i j r x jf hx;rw[hv];exact hd
  rw[hn]at hdr;exact .data hdr
theorem xuh{T el sz:Nat}(hk:im P T=.slice el sz)(oq:im P el≠.other)(hsize:jd P el=sz)(hpos:0<sz)(h24:sz<=16777216){v:Value}(hc:v.cells.size=sz)(w:World) :
  (Instr.buildSlice T 1 #[(0,v)]).run P w=.ok (.slice (some ⟨w.heap.size,0,none⟩) 1 1) (w.alloc (.cells v.cells el)):=by
 obtain⟨iT,dT,zT,_,pw,_,ua,_⟩:=li hk ac;obtain⟨rfl,ie,ln,un⟩:=vh ua;obtain⟨ie',de,ze,qi,_,yp,_,hts,_,p8,hz1⟩:=li (P:=P) (t:=el) rfl oq;rw[ln]at qi;cases qi;subst un;have yt:(zeroValue el).run P w=.ok ze w:=qfk
 let zs:Array Value:=(Array.range (1 * ie.size)).map (ze.cells[· % ze.cells.size]!)
 have hzz:zs.size=ie.size:=by simp[zs]
 have qv9:Instr.fill (λi=>some (i * ie.size,ie.size)) zs [(0,v)]=some v.cells:=by
  simp only[Instr.fill];rw[if_neg af];congr 1;have hcs1:v.cells.zipIdx.foldl (λ(cs:Array Value) (p:Value×Nat)=>cs.setIfInBounds (0 * ie.size+p.2) p.1) zs=(v.cells.toList.zipIdx 0).foldl (λ(cs:Array Value) (p:Value×Nat)=>cs.setIfInBounds (0 * ie.size+p.2) p.1) zs:=by
   rw[<-qj7,Array.toList_zipIdx]
  obtain⟨g1,g2⟩:=xcq (0 * ie.size) v.cells.toList 0 zs;have g2:=g2 af;rw[hcs1];apply Array.ext
  .omega
  .grind
 have hlit:¬(1 * ie.size > 2 ^ 24):=az;have h0:¬(1 * ie.size=0):=aa;simp only[Instr.buildSlice,c8,ox pw,c9,xl ln,if_neg hlit,if_neg h0,yt,dm];have hzz':(Array.range (1 * ie.size)).map (λx=>ze.cells[x % ze.cells.size]!)=zs:=rfl;simp only[hzz',qv9,newRow,c8,qck,c9,dm]
theorem xty{c:Ctx}{h:g9}{w:World}(s:HSim c h w)(k:E.ok c h w){T el sz n:Nat}(hk:im P T=.slice el sz){parts:List (Nat×AV)}{qs:Array (Nat×Value)}(hl:parts.length=qs.size)
  (hpq:∀(j:Nat) (p:Nat×AV) (q:Nat×Value),parts[j]?=some p->qs[j]?=some q->p.1=q.1/\Rel c p.2 q.2) {cs:List AV} (hr:qxw sz n parts=some cs) (hpos:0<sz) (h24:sz<=16777216)
  (oq:im P el≠.other) (hsize:jd P el=sz) :
  ∃v w' c',(Instr.buildSlice T n qs).run P w=.ok v w'/\c.le c'/\HSim c' h w'/\E.ok c' h w'/\Rel c' (.lit cs) v:=by
 unfold qxw at hr;split at hr
 .rename_i x;split at hr
  .rename_i hx;obtain⟨kp,hxl⟩:=hx;cases hr;have hq0:qs[0]?=some qs[0]!:=af;obtain⟨e1,e2⟩:=hpq 0 (0,x) _ rfl hq0;have hqs:qs = #[(0,(qs[0]!).2)]:=af;generalize(qs[0]!).2=v at hqs e2;subst hqs;obtain⟨hc1,nh⟩:=e2.cells kp;have jk:=xuh (P:=P) hk oq hsize hpos h24 (v:=v) af w;obtain⟨c1,qmn,s1,k1,hD1⟩:=qzg s k v.cells el;refine⟨_,_,c1,jk,qmn,s1,k1,?_⟩;refine .lit x.cells w.heap.size 0 1 (λj=>v.cells[j]!) (λj y hy=>?_) (λj y hy=>?_) (λj y hy=>?_)
   all_goals have il:j<v.cells.size:=af
   .grind
   .rw[getElem!_pos v.cells j il];exact((nh j y v.cells[j] hy (fi il)).1).mono qmn
   .rw[getElem!_pos v.cells j il];exact(nh j y v.cells[j] hy (fi il)).2
  .cases hr
 .cases hr
end
theorem xch{α:Type}(l us:List α)(p k:Nat)(h:p+us.length<=l.length) :
  (l.take p++us++l.drop (p+us.length))[k]?=if k<p then l[k]? else if k<p+us.length then us[k - p]? else l[k]?:=by
 have hm:min p l.length=p:=aa;by_cases h1:k<p
 .grind
 .grind
section
variable {P:Program} {E:Ent}
theorem jik{c:Ctx}{h:g9}{w:World}(hs:HSim c h w)(k:E.ok c h w){o:Oper}{ev:Operand->Value}{T:TypeId}{ad x:Operand}(lf:o.op=.store T ad x){i n sz r q e:Nat}{rows:List (List AV)}{y:AV}
  (wt:Rel c (.optr i n sz r q) (ev ad)) (mq:Rel c y (ev x)) (hi:h[i]?=some (.uarr e sz rows)) (hn:rows.length=n) (hr:r<rows.length) (kp:y.cellsOk=true) (qlj:(ko h y.cells).all AV.isData=true)
  (jx:y.cells.length=jd P T) (hk:im P T≠.other) (ij:q+y.cells.length<=sz) :
  ∃w',(execOp ev o).run P w=.ok .skip w'/\HSim c (h.set i (.uarr e sz (rows.set r ((rows.getD r []).take q++ko h y.cells++(rows.getD r []).drop (q+y.cells.length))))) w' /\
   E.ok c (h.set i (.uarr e sz (rows.set r ((rows.getD r []).take q++ko h y.cells++(rows.getD r []).drop (q+y.cells.length))))) w':=by
 obtain⟨b,o',len,cap,hav,hv⟩:=qw4 wt;subst hn;obtain⟨v',vs,h1,xx,vw,h2,h3,h4,h5⟩:=hs.obj i _ hi;rw[hv]at h1;cases h1;rcases h2.2 with⟨e1,_⟩|⟨g,cp,cur,e1,_,hg,ng,lw,md,xy⟩
 .cases e1
 .cases e1;obtain⟨c1,c2⟩:=mq.cells kp;obtain⟨iT,d,z,t1,t2,t3,t4,t5,_⟩:=li (P:=P) (t:=T) rfl hk;have nj:∀v,v∈(ev x).cells.toList->v.oneCell'=true:=λv hv=>by grind[da]
  have vp:(ev x).cells.toList.length=y.cells.length:=aa;have hrs:(r+1) * sz<=rows.length * sz:=dx _ hr;rw[ee,fo]at hrs;have hcs':rows.length * sz<=cur.size:=qf5;have hp:(r * sz+q)+(ev x).cells.toList.length<=cur.size:=aa;have jk:=run_storeCells_at P b (r * sz+q) e (ev x).cells.toList 0 cur w hg aa nj;simp only[ea]at jk;have hsize:(ev x).cells.size=iT.size:=aa;have kn:(execOp ev o).run P w=.ok .skip (w.setRow b (cur.toList.take (r * sz+q)++(ev x).cells.toList++cur.toList.drop (r * sz+q+(ev x).cells.toList.length)).toArray):=by
   simp only[execOp,lf,Instr.storeAt,hav,cz,Instr.sureAddr,storeVar,c8,dm,c9,xl t1,hsize,ne_eq,not_true_eq_false,if_false,jk]
  have ov:∀g,g≠b->(w.setRow b (cur.toList.take (r * sz+q)++(ev x).cells.toList++cur.toList.drop (r * sz+q+(ev x).cells.toList.length)).toArray).heap[g]?=w.heap[g]?:=λg hg=>setRow_other w b g _ hg;have ut:(w.setRow b (cur.toList.take (r * sz+q)++(ev x).cells.toList++cur.toList.drop (r * sz+q+(ev x).cells.toList.length)).toArray).heap.size=w.heap.size:=ac;have ry:je c i (.uarr e sz rows)=some b:=qfm
  let rows':=rows.set r ((rows.getD r []).take q++ko h y.cells++(rows.getD r []).drop (q+y.cells.length))
  have qw2:je c i (.uarr e sz rows')=some b:=bz;have hrow0:rows[r]?=some (rows.getD r []):=af;have oz:(rows.getD r []).length=sz:=h4 _ (cv hrow0);have qm:(ko h y.cells).length=y.cells.length:=by simp[qdi]
  have o9:∀j ob b',(h.set i (.uarr e sz rows'))[j]?=some ob->je c j ob=some b'->∃o0,h[j]?=some o0/\je c j o0=some b':=λj ob b' hj iq=>by grind
  have wz:∀kk,kk<rows.length * sz->vs[kk]?=cur.toList[kk]?:=λkk hkk=>by rw[<-xy,dt,if_pos hkk]
  have ue:ObjR c (w.setRow b (cur.toList.take (r * sz+q)++(ev x).cells.toList++cur.toList.drop (r * sz+q+(ev x).cells.toList.length)).toArray) i (.uarr e sz rows'):=by
   refine⟨.slice (some ⟨b,0,none⟩) rows.length cap,(cur.toList.take (r * sz+q)++(ev x).cells.toList++cur.toList.drop (r * sz+q+(ev x).cells.toList.length)).take (rows.length * sz),by simp[rows',hv],rfl,by simpa[rows']using vw,⟨?_,.inr ⟨b,cap,_,qii,dq _,setRow_heap w b cur _ e (0,0) hg,by simpa[rows']using ng,lw,?_,qii⟩⟩,by simpa[rows']using h3,λr' jf=>?_,λi' j qv3 x' hrw nw=>?_⟩
   .grind
   .grind
   .grind
   .have il:i'<rows.length:=by have:=(cm.1 hrw).1;simpa[rows']using this
    have his:(i'+1) * sz<=rows.length * sz:=dx _ il;rw[ee,fo]at his;have px:=xch cur.toList (ev x).cells.toList (r * sz+q) (i' * sz+j) aa;rcases m7 hrw with⟨rfl,rfl⟩|⟨it,h6⟩
    .have hj:j<sz:=by
      have:=(cm.1 nw).1;simp only[c7,ey,qi8,qm,oz]at this;omega
     rw[dt,if_pos aa,px];have qe:=xch (rows.getD i' []) (ko h y.cells) q j aa;rw[qm]at qe;rw[qe]at nw;by_cases hj1:j<q
     .grind
     .rw[if_neg hj1]at nw;rw[if_neg aa];by_cases hj2:j<q+y.cells.length
      .rw[if_pos hj2]at nw;rw[if_pos aa];have hjc:j - q<y.cells.length:=aa;have hxm:=cv nw;have e2:i' * sz+j - (i' * sz+q)=j - q:=aa;rw[e2];simp only[qdi,di,db]at nw;obtain⟨y0,hy0,rfl⟩:=nw;have qvn:j - q<(ev x).cells.size:=aa;refine⟨(ev x).cells[j - q],by simp[qvn],xbn (dr.1 qlj _ hxm) (qdw hs (c2 _ y0 _ hy0 ac).1)⟩
      .grind
    .have hrow':=h4 qv3 (cv h6);have hj:j<sz:=af;rw[dt,if_pos aa,px];rcases ei i' r with h7|h7
     .have:(i'+1) * sz<=r * sz:=dx _ h7;rw[ee,fo]at this;rw[if_pos aa,<-wz _ aa];exact h5 i' j qv3 x' h6 nw
     .have:(r+1) * sz<=i' * sz:=dx _ aa;rw[ee,fo]at this;rw[if_neg aa,if_neg aa,<-wz _ aa];exact h5 i' j qv3 x' h6 nw
  refine⟨_,kn,⟨λg j v hD=>?_,λj hj=>hs.dom j af,λj ob hj=>?_,λj j' ob o2 b' hj ny kr nm=>?_,λj ob b' m v hj kr hD=>?_⟩,⟨k.edom,k.ext,k.blk0,bs,k.os,k.tape,k.output,qh6,λg jp kf=>?_,λj ob b' hj kr=>?_,k.dold⟩⟩
  .have jp:g≠b:=λe2=>by
    subst e2;exact hs.sep i _ g j v hi ry hD
   rw[World.cell?_of_block (w:=w) (ov g jp)];exact hs.data g j v hD
  .rcases m7 hj with⟨rfl,rfl⟩|⟨it,h6⟩
   .exact ue
   .refine(hs.obj j ob h6).keep (.refl c) (λ_=>rfl) λb' iq=>ov b' λe2=>it ?_;subst e2;exact hs.apart j i ob _ b' h6 hi iq ry
  .obtain⟨o3,g1,vk⟩:=o9 j ob b' hj kr;obtain⟨o4,g2,g2'⟩:=o9 j' o2 b' ny nm;exact hs.apart j j' o3 o4 b' g1 g2 vk g2'
  .rcases m7 hj with⟨rfl,rfl⟩|⟨it,h6⟩
   .have hb1':je c j (.uarr e sz rows')=some b':=kr;rw[qw2]at hb1';have h9:(AObj.uarr e sz rows).shares m:=hs.sep j (.uarr e sz rows) b' m v hi af hD;exact h9
   .exact hs.sep j ob b' m v h6 kr hD
  .have it:g≠b:=λe2=>by
    subst e2;rcases k.newobj i _ g hi ry with⟨i0,o0,h6,h7⟩|h6
    .grind
    .omega
   rw[ov g it];exact k.frame g jp kf
  .obtain⟨o3,g1,vk⟩:=o9 j ob b' hj kr;exact k.newobj j o3 b' g1 vk
theorem jep{c:Ctx}{h:g9}{w:World}(hs:HSim c h w)(k:E.ok c h w){o:Oper}{ev:Operand->Value}{T:TypeId}{ad x:Operand}(lf:o.op=.store T ad x){i n sz r q e:Nat}{rows:List (List AV)}{y:AV}
  (wt:Rel c (.optr i n sz r q) (ev ad)) (mq:Rel c y (ev x)) (hi:h[i]?=some (.oarr e sz rows)) (hn:rows.length=n) (hr:r<rows.length) (kp:y.cellsOk=true)
  (jx:y.cells.length=jd P T) (hk:im P T≠.other) (ij:q+y.cells.length<=sz) :
  ∃w',(execOp ev o).run P w=.ok .skip w'/\HSim c (h.set i (.oarr e sz (rows.set r ((rows.getD r []).take q++y.cells++(rows.getD r []).drop (q+y.cells.length))))) w' /\
   E.ok c (h.set i (.oarr e sz (rows.set r ((rows.getD r []).take q++y.cells++(rows.getD r []).drop (q+y.cells.length))))) w':=by
 obtain⟨b,o',len,cap,hav,hv⟩:=qw4 wt;subst hn;obtain⟨v',vs,h1,xx,vw,h2,h3,h4,h5⟩:=hs.obj i _ hi;rw[hv]at h1;cases h1;rcases h2.2 with⟨e1,_⟩|⟨g,cp,cur,e1,_,hg,ng,lw,md,xy⟩
 .cases e1
 .cases e1;obtain⟨c1,c2⟩:=mq.cells kp;obtain⟨iT,d,z,t1,t2,t3,t4,t5,_⟩:=li (P:=P) (t:=T) rfl hk;have nj:∀v,v∈(ev x).cells.toList->v.oneCell'=true:=λv hv=>by grind[da]
  have vp:(ev x).cells.toList.length=y.cells.length:=aa;have hrs:(r+1) * sz<=rows.length * sz:=dx _ hr;rw[ee,fo]at hrs;have hcs':rows.length * sz<=cur.size:=qf5;have hp:(r * sz+q)+(ev x).cells.toList.length<=cur.size:=aa;have jk:=run_storeCells_at P b (r * sz+q) e (ev x).cells.toList 0 cur w hg aa nj;simp only[ea]at jk;have hsize:(ev x).cells.size=iT.size:=aa;have kn:(execOp ev o).run P w=.ok .skip (w.setRow b (cur.toList.take (r * sz+q)++(ev x).cells.toList++cur.toList.drop (r * sz+q+(ev x).cells.toList.length)).toArray):=by
   simp only[execOp,lf,Instr.storeAt,hav,cz,Instr.sureAddr,storeVar,c8,dm,c9,xl t1,hsize,ne_eq,not_true_eq_false,if_false,jk]
  have ov:∀g,g≠b->(w.setRow b (cur.toList.take (r * sz+q)++(ev x).cells.toList++cur.toList.drop (r * sz+q+(ev x).cells.toList.length)).toArray).heap[g]?=w.heap[g]?:=λg hg=>setRow_other w b g _ hg;have ut:(w.setRow b (cur.toList.take (r * sz+q)++(ev x).cells.toList++cur.toList.drop (r * sz+q+(ev x).cells.toList.length)).toArray).heap.size=w.heap.size:=ac;have ry:je c i (.oarr e sz rows)=some b:=qfm
  let rows':=rows.set r ((rows.getD r []).take q++y.cells++(rows.getD r []).drop (q+y.cells.length))
  have qw2:je c i (.oarr e sz rows')=some b:=bz;have hrow0:rows[r]?=some (rows.getD r []):=af;have oz:(rows.getD r []).length=sz:=h4 _ (cv hrow0);have qm:(y.cells).length=y.cells.length:=rfl;have o9:∀j ob b',(h.set i (.oarr e sz rows'))[j]?=some ob->je c j ob=some b'->∃o0,h[j]?=some o0/\je c j o0=some b':=λj ob b' hj iq=>by grind
  have wz:∀kk,kk<rows.length * sz->vs[kk]?=cur.toList[kk]?:=λkk hkk=>by rw[<-xy,dt,if_pos hkk]
  have ue:ObjR c (w.setRow b (cur.toList.take (r * sz+q)++(ev x).cells.toList++cur.toList.drop (r * sz+q+(ev x).cells.toList.length)).toArray) i (.oarr e sz rows'):=by
   refine⟨.slice (some ⟨b,0,none⟩) rows.length cap,(cur.toList.take (r * sz+q)++(ev x).cells.toList++cur.toList.drop (r * sz+q+(ev x).cells.toList.length)).take (rows.length * sz),by simp[rows',hv],rfl,by simpa[rows']using vw,⟨?_,.inr ⟨b,cap,_,qii,dq _,setRow_heap w b cur _ e (0,0) hg,by simpa[rows']using ng,lw,?_,qii⟩⟩,by simpa[rows']using h3,λr' jf=>?_,λi' j qv3 x' hrw nw=>?_⟩
   .grind
   .grind
   .grind
   .have il:i'<rows.length:=by have:=(cm.1 hrw).1;simpa[rows']using this
    have his:(i'+1) * sz<=rows.length * sz:=dx _ il;rw[ee,fo]at his;have px:=xch cur.toList (ev x).cells.toList (r * sz+q) (i' * sz+j) aa;rcases m7 hrw with⟨rfl,rfl⟩|⟨it,h6⟩
    .have hj:j<sz:=by
      have:=(cm.1 nw).1;simp only[c7,ey,qi8,qm,oz]at this;omega
     rw[dt,if_pos aa,px];have qe:=xch (rows.getD i' []) (y.cells) q j aa;rw[qm]at qe;rw[qe]at nw;by_cases hj1:j<q
     .grind
     .rw[if_neg hj1]at nw;rw[if_neg aa];by_cases hj2:j<q+y.cells.length
      .grind
      .grind
    .have hrow':=h4 qv3 (cv h6);have hj:j<sz:=af;rw[dt,if_pos aa,px];rcases ei i' r with h7|h7
     .have:(i'+1) * sz<=r * sz:=dx _ h7;rw[ee,fo]at this;rw[if_pos aa,<-wz _ aa];exact h5 i' j qv3 x' h6 nw
     .have:(r+1) * sz<=i' * sz:=dx _ aa;rw[ee,fo]at this;rw[if_neg aa,if_neg aa,<-wz _ aa];exact h5 i' j qv3 x' h6 nw
  refine⟨_,kn,⟨λg j v hD=>?_,λj hj=>hs.dom j af,λj ob hj=>?_,λj j' ob o2 b' hj ny kr nm=>?_,λj ob b' m v hj kr hD=>?_⟩,⟨k.edom,k.ext,k.blk0,bs,k.os,k.tape,k.output,qh6,λg jp kf=>?_,λj ob b' hj kr=>?_,k.dold⟩⟩
  .have jp:g≠b:=λe2=>by
    subst e2;exact hs.sep i _ g j v hi ry hD
   rw[World.cell?_of_block (w:=w) (ov g jp)];exact hs.data g j v hD
  .rcases m7 hj with⟨rfl,rfl⟩|⟨it,h6⟩
   .exact ue
   .refine(hs.obj j ob h6).keep (.refl c) (λ_=>rfl) λb' iq=>ov b' λe2=>it ?_;subst e2;exact hs.apart j i ob _ b' h6 hi iq ry
  .obtain⟨o3,g1,vk⟩:=o9 j ob b' hj kr;obtain⟨o4,g2,g2'⟩:=o9 j' o2 b' ny nm;exact hs.apart j j' o3 o4 b' g1 g2 vk g2'
  .rcases m7 hj with⟨rfl,rfl⟩|⟨it,h6⟩
   .have hb1':je c j (.oarr e sz rows')=some b':=kr;rw[qw2]at hb1';have h9:(AObj.oarr e sz rows).shares m:=hs.sep j (.oarr e sz rows) b' m v hi af hD;exact h9
   .exact hs.sep j ob b' m v h6 kr hD
  .have it:g≠b:=λe2=>by
    subst e2;rcases k.newobj i _ g hi ry with⟨i0,o0,h6,h7⟩|h6
    .grind
    .omega
   rw[ov g it];exact k.frame g jp kf
  .obtain⟨o3,g1,vk⟩:=o9 j ob b' hj kr;exact k.newobj j o3 b' g1 vk
end
section
variable {P:Program} {E:Ent}
theorem xsu{c:Ctx}{e:Env}{a:Act}{w:World}(s:Sim E.N c e a w)(k:E.ok c e.h w){o:Oper}{K Kp:AV->g9->Prop}(h:qy P e o.op K Kp){next:Act->World->Prop}{Q:Exit->Act->World->Prop}
  (wd:∀v h' c' w' u,K v h'->c.le c'->HSim c' h' w'->E.ok c' h' w'->Rel c' v u->next (a.put o.dst u) w')
  (qwb:∀v h' c' w' u,Kp v h'->c.le c'->HSim c' h' w'->E.ok c' h' w'->Rel c' v u->Q (.panic [⟨u,false,false⟩]) a w'):o.wp P a w next Q:=by
 have hev:∀o':Oper,o'=o->o'.op=o.op:=λ_ h=>by rw[h]
 cases lf:o.op with
 |box T x =>
  rw[lf]at h;obtain⟨iz,kp,hK⟩:=h;have hr:=rp s iz x ac;obtain⟨h1,h2⟩:=hr.cells kp;obtain⟨c',ij,s',k',hb⟩:=xpx s.hs k T h1 h2;exact vj (w':=w.alloc (.cells (a.eval x).cells T)) (v:=.pointer (some ⟨w.heap.size,0,none⟩)) qf6
   (wd _ _ _ _ _ hK ij s' k' (.ptr _ _ _ hb))
 |alloc T =>
  rw[lf]at h;obtain⟨hk,hK⟩:=h;obtain⟨i,d,z,h1,h2,h3,h4,h5,h6,h7,h8⟩:=li (P:=P) (t:=T) rfl hk;rw[h6]at hK;obtain⟨g1,g2⟩:=xfz c h8;obtain⟨c',ij,s',k',hb⟩:=xpx s.hs k T g1 g2;have yt:(zeroValue T).run P w=.ok z w:=qfn;exact vj (w':=w.alloc (.cells z.cells T)) (v:=.pointer (some ⟨w.heap.size,0,none⟩)) qf4
   (wd _ _ _ _ _ hK ij s' k' (.ptr _ _ _ hb))
 |store T ad x =>
  rw[lf]at h;obtain⟨iz,h⟩:=h;have wt:=rp s iz ad ac;have mq:=rp s iz x ac;split at h
  .rename_i i off hga;rw[hga]at wt;split at h
   .rename_i xs hi;obtain⟨kp,jx,hk,ij,hK⟩:=h;obtain⟨b,hav,hb⟩:=qul wt;obtain⟨h1,h2⟩:=mq.cells kp;obtain⟨b',vs,T',g1,g2,g3,g4⟩:=s.hs.obj i _ hi;rw[hb]at g1;cases g1;obtain⟨iT,d,z,t1,t2,t3,t4,t5,_⟩:=li (P:=P) (t:=T) rfl hk;have nj:∀v,v∈(a.eval x).cells.toList->v.oneCell'=true:=λv hv=>by grind[da]
    have jk:=run_storeCells_at P b off T' (a.eval x).cells.toList 0 vs w g2 af nj;simp only[ea]at jk;have hsize:(a.eval x).cells.size=iT.size:=aa;have kn:(execOp a.eval o).run P w=.ok .skip (w.setRow b (vs.toList.take off++(a.eval x).cells.toList++vs.toList.drop (off+(a.eval x).cells.toList.length)).toArray):=by
     simp only[execOp,lf,Instr.storeAt,hav,Instr.sureAddr,storeVar,c8,dm,c9,xl t1,hsize,ne_eq,not_true_eq_false,if_false,jk]
    have zk:qp0 c (xs.take off++(e.getS x).cells++xs.drop (off+(e.getS x).cells.length)) (vs.toList.take off++(a.eval x).cells.toList++vs.toList.drop (off+(a.eval x).cells.toList.length)).toArray:=by
     have hl2:(a.eval x).cells.toList.length=(e.getS x).cells.length:=aa;refine⟨qhu,λj y v hy hv=>?_⟩;have v6:(vs.toList.take off++(a.eval x).cells.toList++vs.toList.drop (off+(a.eval x).cells.toList.length))[j]?=some v:=af;rw[hl2]at v6;by_cases hj1:j<off
     .grind
     .grind
    obtain⟨s',k'⟩:=xpd s.hs k hi hb g2 zk.1 zk.2;exact xaw kn (wd _ _ _ _ _ hK (.refl c) s' k' (.top _))
   .grind
  .rename_i i n sz r q hga;rw[hga]at wt;split at h
   .rename_i tt ky rows hi;obtain⟨hn,rfl,hr,kp,qlj,jx,hk,ij,hK⟩:=h;obtain⟨w',kn,s',k'⟩:=jik (P:=P) (E:=E) s.hs k lf wt mq hi hn hr kp qlj jx hk ij;exact xaw kn (wd _ _ _ _ _ hK (.refl c) s' k' (.top _))
   .rename_i tt ky rows hi;obtain⟨hn,rfl,hr,kp,jx,hk,ij,hK⟩:=h;obtain⟨w',kn,s',k'⟩:=jep (P:=P) (E:=E) s.hs k lf wt mq hi hn hr kp jx hk ij;exact xaw kn (wd _ _ _ _ _ hK (.refl c) s' k' (.top _))
   .grind
  .grind
 |buildSlice T n parts =>
  rw[lf]at h;simp only[qy]at h;split at h
  .rename_i el sz hk;split at h
   .rename_i rows hr;obtain⟨iz,hn,hpos,h24,oq,jx,hK⟩:=h;have jr:=rp s iz;obtain⟨v,w',c',jk,ij,s',k',jf⟩:=xou (P:=P) (E:=E) s.hs k hk (parts:=parts.toList.map λp=>(p.1,e.getS p.2)) (qs:=parts.map λp=>(p.1,a.eval p.2)) ac (λj p q hp hq=>by
     simp only[di,db]at hp;obtain⟨x,hx,rfl⟩:=hp;simp only[fy,db]at hq;obtain⟨y,hy,rfl⟩:=hq;have:x=y:=af;subst this;exact⟨rfl,jr x.2 (cy.2 ⟨x,cv hx,rfl⟩)⟩) hr hn hpos h24 oq jx
    exact vj qev (wd _ _ _ _ _ hK ij s' k' jf)
   .split at h
    .rename_i cs hr;obtain⟨iz,hpos,h24,oq,jx,hK⟩:=h;have jr:=rp s iz;obtain⟨v,w',c',jk,ij,s',k',jf⟩:=xty (P:=P) (E:=E) s.hs k hk (parts:=parts.toList.map λp=>(p.1,e.getS p.2)) (qs:=parts.map λp=>(p.1,a.eval p.2)) ac (λj p q hp hq=>by
      simp only[di,db]at hp;obtain⟨x,hx,rfl⟩:=hp;simp only[fy,db]at hq;obtain⟨y,hy,rfl⟩:=hq;have:x=y:=af;subst this;exact⟨rfl,jr x.2 (cy.2 ⟨x,cv hx,rfl⟩)⟩) hr hpos h24 oq jx
     exact vj qev (wd _ _ _ _ _ hK ij s' k' jf)
    .grind
  .grind
 |call cl =>
  obtain⟨callee,args,argTypes⟩:=cl;rw[lf]at h;cases callee with
  |value f =>
   obtain⟨iz,h⟩:=h;split at h
   .grind[xis]
   .grind
  |invoke r m=>exact h.elim
  |builtin b =>
   cases b with
   |append =>
    simp only[qy]at h;split at h
    .rename_i x y T T' hx hT;obtain rfl:args = #[x,y]:=gj hx;obtain rfl:argTypes = #[T,T']:=gj hT;obtain⟨iz,rfl,hA⟩:=h;have mq:=rp s iz x ac;have hry:=rp s iz y ac;obtain⟨r,h',v',w',c',hK,jk,ij,s',k',hr⟩:=xwq (P:=P) (ty:=o.type) s.hs k mq hry hA;exact vj (by simp only[execOp,lf,resolve,invoke,builtin,c8,dm,c9,qji,dj,fc,jk]) (wd _ _ _ _ _ hK ij s' k' hr)
    .grind
   |delete =>
    simp only[qy]at h;split at h
    .rename_i m key T T' hx hT;obtain rfl:args = #[m,key]:=gj hx;obtain rfl:argTypes = #[T,T']:=gj hT;obtain⟨iz,h⟩:=h;have hrm:=rp s iz m ac;have hrk:=rp s iz key ac;split at h
     .rename_i kt et i st hk hm qrg;split at h
      .rename_i es hes;split at h
       .rename_i l hl;obtain⟨hK,hF⟩:=h;obtain rfl:=xft hl;rw[hm]at hrm;rw[qrg]at hrk;obtain⟨w',jk,s',k'⟩:=jav (P:=P) (T':=T') (ty:=o.type) (key:=st) s.hs k hk hK hrm hes;exact vj (by simp only[execOp,lf,resolve,invoke,builtin,c8,dm,c9,qji,dj,fc,hrk.val_inv,jk]) (wd _ _ _ _ _ hF (.refl c) s' k' (.tuple [] #[] rfl (λj x v hx=>by simp at hx)))
       .grind
      .grind
     .grind
    .grind
   |_=>exact h.elim
 |range T x =>
  rw[lf]at h;obtain⟨iz,h⟩:=h;have mq:=rp s iz x ac;split at h
  .rename_i st hk hx;rw[hx]at mq;obtain⟨c',ij,s',k',r8⟩:=jfn s.hs k st;exact vj (by simp only[execOp,lf,mq.val_inv,c8,ji0 (xcl hk),dm,c9]) (wd _ _ _ _ _ h ij s' k' (.ptr _ _ _ r8))
  .grind
 |next x isStr =>
  rw[lf]at h;cases isStr with
  |false=>exact h.elim
  |true =>
   obtain⟨iz,h⟩:=h;have mq:=rp s iz x ac;split at h
   .rename_i i hx;rw[hx]at mq;obtain⟨b,hav,hb⟩:=qul mq;split at h
    .rename_i st p hi;obtain⟨b',g1,g2⟩:=s.hs.obj i _ hi;rw[hb]at g1;cases g1;have jk:=xwf (P:=P) g2 o.type;split at h
     .rename_i hp;rw[if_pos hp]at jk;obtain⟨s',k'⟩:=jfq (p':=p+(Utf8.decode st p).2) s.hs k hi hb g2;refine vj (v:=.tuple #[.bool true,goInt p,.int .i32 (Utf8.decode st p).1]) qgv (wd _ _ _ _ _ h (.refl c) s' k' (.tuple _ _ ac λj y v hy hv=>?_))
      match j with
      | 0=>simp at hy hv;subst hy;subst hv;exact .val _
      | 1=>simp at hy hv;subst hy;subst hv;exact .val _
      | 2=>simp at hy hv;subst hy;subst hv;exact .val _
      |j+3=>simp at hy
     .rename_i hp;rw[if_neg hp]at jk;refine vj (v:=.tuple #[.bool false]) qgv (wd _ _ _ _ _ h (.refl c) s.hs k (.tuple _ _ ac λj y v hy hv=>?_))
      match j with
      | 0=>simp at hy hv;subst hy;subst hv;exact .val _
      |j+1=>simp at hy
    .grind
   .grind
 |panic x =>
  rw[lf]at h;obtain⟨iz,hi,hF⟩:=h;have mq:=rp s iz x ac;have hv:∃t u,a.eval x=.iface t u:=by
   revert hi mq
   generalize e.getS x=y;generalize a.eval x=u;intro hi mq;cases y<;>simp only[AV.isIface]at hi<;>first|(cases hi;done)|skip
   cases mq with
   |data h=>cases h
   |iface t y u h=>exact⟨_,_,rfl⟩
  obtain⟨t,u,hv⟩:=hv;have jk:(execOp a.eval o).run P w=.halt (.panic (a.eval x)) w:=by
   simp only[execOp,lf,hv,c8];rfl
  unfold Oper.wp;rw[jk,Oper.upon_panic];exact qwb _ _ _ _ _ hF (.refl c) s.hs k mq
 |makeMap T r =>
  rw[lf]at h;simp only[qy]at h;split at h
  .rename_i kt et hk;obtain⟨hr,hF⟩:=h;obtain⟨c',ij,s',k',r8⟩:=jde s.hs k;have jk:(Instr.makeMap T (r.map a.eval)).run P w=.ok (.map (some w.heap.size)) (w.alloc (.map #[] 0)):=run_makeMap (qzq hk) _ λv hv=>by
    simp only[db]at hv;obtain⟨x,rfl,rfl⟩:=hv;obtain⟨iz,hint⟩:=hr;have mq:=rp s iz x ac
    revert hint mq
    generalize e.getS x=y;intro hint mq;unfold AV.isInt at hint;split at hint
    .exact⟨_,_,mq.val_inv⟩
    .cases hint
   exact vj qev (wd _ _ _ _ _ hF ij s' k' (.mapr _ _ r8))
  .grind
 |mapUpdate T m key x =>
  rw[lf]at h;obtain⟨iz,h⟩:=h;have hrm:=rp s iz m ac;have hrk:=rp s iz key ac;have mq:=rp s iz x ac;split at h
  .rename_i kt et i st hk hm qrg;split at h
   .rename_i es hes;split at h
    .rename_i l hl;obtain⟨hK,hF⟩:=h;obtain rfl:=xft hl;rw[hm]at hrm;rw[qrg]at hrk;obtain⟨w',jk,s',k'⟩:=xx2 (P:=P) (key:=st) s.hs k hk hK hrm mq (qrj hrk) hes;exact xaw (by simp only[execOp,lf,hrk.val_inv,c8,jk,dm,c9]) (wd _ _ _ _ _ hF (.refl c) s' k' (.top _))
    .grind
   .grind
  .grind
 |_=>rw[lf]at h;exact h.elim
theorem xcw{ops:Array Oper}{Q:Exit->Act->World->Prop}{next:Act->World->Prop}{o:Oper}{a:Act}{w:World}{G:Bool}(hw:Region.wanted o (yielded ops a.tmps)=G)(h1:G=true->o.wp P a w next Q)(h2:G=false->next (a.put o.dst undef) w) :
  if Region.wanted o (yielded ops a.tmps)then o.wp P a w next Q\/(o.asks P a w/\LetsOut Q)else next (a.put o.dst undef) w:=by
 cases G with
 |true=>rw[if_pos hw];exact .inl (h1 rfl)
 |false=>rw[if_neg af];exact h2 rfl
theorem xij{Q:AExit->Env->Prop}{Qc:Exit->Act->World->Prop}{ops:Array Oper}{ds:List (Option Tmp)}{o:Oper}{e:Env}{K:Env->Prop}(h:s7 P E.N Q ds o e K){c:Ctx}{a:Act}{w:World}(qxv:∀G,gB ds e o.guard=some G->Region.wanted o (yielded ops a.tmps)=G)
  (s:Sim E.N c e a w) (k:E.ok c e.h w) {nx:Act->World->Prop} (hpn:∀v e' c' a' w' u,Q (.panic v) e'->Rel c' v u->Sim E.N c' e' a' w'->E.ok c' e'.h w'->Qc (.panic [⟨u,false,false⟩]) a' w') (hnx:∀e' c' a' w',K e'->Sim E.N c' e' a' w'->E.ok c' e'.h w'->nx a' w') :
  if Region.wanted o (yielded ops a.tmps)then o.wp P a w nx Qc\/(o.asks P a w/\LetsOut Qc)else nx (a.put o.dst undef) w:=by
 have next:∀(e':Env) (c':Ctx) (w':World) (v:AV) (u:Value),K (({ e with h:=e'.h }:Env).put o.dst v)->zj E.N o.dst->c.le c'->HSim c' e'.h w'->E.ok c' e'.h w'->Rel c' v u ->
   nx (a.put o.dst u) w':=λe' c' w' v u hF hd ij jg kb hr =>
  hnx _ c' _ w' hF (s.put ij jg (qyd hd) hr) (by cases o.dst<;>exact kb)
 unfold s7 at h;split at h
 .grind
 .rename_i G hG;obtain⟨hd,h⟩:=h;have hw:=qxv G hG
  -- what a quiet operation leaves
  have quiet:∀(v:AV) (k':G=true->∃u,(execOp a.eval o).run P w=.ok (.value u) w/\Rel c v u),K (e.put o.dst (qb o.guard G v))->(if Region.wanted o (yielded ops a.tmps)then o.wp P a w nx Qc\/(o.asks P a w/\LetsOut Qc)else nx (a.put o.dst undef) w):=by
   intro v hv hF;refine xcw hw (λhGt=>?_) (λhGf=>?_)
   .obtain⟨u,hu,hr⟩:=hv hGt;refine vj hu (next e c w (qb o.guard G v) u hF hd (.refl c) s.hs k ?_);unfold qb;split
    .exact hr
    .exact .opt _ _ _ (λ_=>hr) (λhf=>by rw[hGt]at hf;cases hf)
   .refine next e c w (qb o.guard G v) undef hF hd (.refl c) s.hs k ?_
    unfold qb;split
    .grind[gB,eb]
    .exact .opt _ _ _ (λht=>by rw[hGf]at ht;cases ht) (λ_=>rfl)
  split at h
  .rename_i x y z lf;obtain⟨hp,hF⟩:=h;refine quiet _ (λhGt=>?_) hF;rw[hGt]at hp;obtain⟨b,hb,hr⟩:=xnp (s.eval x) (s.eval y) (s.eval z) hp;refine⟨_,?_,hr⟩;simp only[execOp,lf,hb,asBool,c8,dm,c9]
  .split at h
   .rename_i heff hgd;obtain⟨iu,hF⟩:=h;refine quiet _ (λhGt=>?_) (by first|exact hF|(rw[hgd];exact hF));obtain⟨iz,jg⟩:=iu hGt;exact xct s.hs (rp s iz) jg
   .rename_i heff hgd;rw[hgd]at hG;simp only[gB,eb]at hG;refine xcw hw (λhGt=>?_) (λhGf=>by rw[<-hG]at hGf;cases hGf);refine xsu s k h (λv h' c' w' u hK ij jg kb hr=>next ⟨e.t,h'⟩ c' w' v u hK hd ij jg kb hr) (λv h' c' w' u hK ij jg kb hr=>?_);exact hpn v _ c' _ _ u hK hr ⟨s.defers,s.size,λi=>(s.tmps i).mono ij,jg⟩ kb
   .rename_i heff hgd;split at h
    .rename_i f args ts lf;split at h
     .rename_i fid first caps hf
      rcases h with⟨r,hr,hF⟩|⟨hGt0,iz,hp⟩
      .refine xcw hw (λhGt=>?_) (λhGf=>?_)
       .obtain⟨iz,hp⟩:=hr hGt;refine xis (E:=E) s k lf iz hf (hp e.h) (λv h' c' w' u hR ij jg kb zb=>?_) (λv h' c' w' u hR=>by cases hR.1);obtain⟨h1,rfl⟩:=hR;cases h1;exact next e c' w' _ u hF hd ij jg kb (.opt _ _ _ (λ_=>zb) (λhf=>by rw[hGt]at hf;cases hf))
       .exact next e c w _ undef hF hd (.refl c) s.hs k (.opt _ _ _ (λht=>by rw[hGf]at ht;cases ht) (λ_=>rfl))
      .refine xcw hw (λ_=>?_) (λhGf=>by rw[hGt0]at hGf;cases hGf);refine xis (E:=E) s k lf iz hf hp (λv h' c' w' u hR ij jg kb zb=>?_) (λv h' c' w' u hR ij jg kb zb=>?_)
       .exact next ⟨e.t,h'⟩ c' w' _ u hR hd ij jg kb (.opt _ _ _ (λ_=>zb) (λhf=>by cases hf))
       .exact hpn v _ c' _ _ u hR zb ⟨s.defers,s.size,λi=>(s.tmps i).mono ij,jg⟩ kb
     .grind
    .grind
theorem qzs{Q:AExit->Env->Prop}{ops:Array Oper}{ds:List (Option Tmp)}{o:Oper}{e:Env}{K:Env->Prop}(h:s7 P E.N Q ds o e K){c:Ctx}{a:Act}{w:World}(qxv:∀G,gB ds e o.guard=some G->Region.wanted o (yielded ops a.tmps)=G)
  (s:Sim E.N c e a w) (k:E.ok c e.h w) {nx:Act->World->Prop} (hnx:∀e' c' a' w',K e'->Sim E.N c' e' a' w'->E.ok c' e'.h w'->nx a' w') :
  if Region.wanted o (yielded ops a.tmps)then o.wp P a w nx (qle E Q)\/(o.asks P a w/\LetsOut (qle E Q))else nx (a.put o.dst undef) w :=
 xij h qxv s k (λv _ c' _ _ _ hq hr hs hk=>⟨.panic v,_,c',hq,hr,hs,hk⟩) hnx
theorem qca{Q:AExit->Env->Prop}{ops:Array Oper}:∀(l:List Oper) (done:List Oper) (e:Env),ops.toList=done++l->qnl P E.N Q (done.map (·.dst)) l e->qsb P E ops l Q e
 | [],done,e,_,h=>xtq h
 |o::l,done,e,vn,h=>by
  have ih:=λe'=>qca (Q:=Q) (ops:=ops) l (done++[o]) e' af;simp only[eg,dj,fc]at ih;intro c a w s k;simp only[qnl]at h;exact qzs h (λG hG=>qx1 vn s hG) s k λe' c' a' w' hK s' k'=>ih e' hK c' a' w' s' k'
theorem qr6{id:Nat}{l:List Oper}{Q:AExit->Env->Prop}{e:Env}(h:qnl P E.N Q [] l e):AWp P E (.region id l.toArray false) Q e :=
 xc1 (qca l [] e ac af)
end
end Go.Abs
