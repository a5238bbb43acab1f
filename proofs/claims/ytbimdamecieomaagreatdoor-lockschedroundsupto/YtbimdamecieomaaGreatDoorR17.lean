/- Part 17 of a proof. -/
import Derived.RangeFuncIn
import Derived.RangeFuncLeaves
import Derived.RangeFuncRecord
import Derived.OrdersIn
import Derived.TacticsIn
import Derived.Test.YtbimdamecieomaaGreatDoorR16
set_option linter.all false
namespace Go.Abs
open Go.Proofs
section
variable {P:Program} {E:Ent}
theorem jkf{c:Ctx}{e:Env}{a:Act}{w:World}(s:Sim E.N c e a w)(k:E.ok c e.h w){ops:Array Oper}{rest:List Oper}{o1:Oper}{Q:Exit→Act→World→Prop}{T el:TypeId}{x y:Operand}{d1 n m:Nat}{i:TypeInfo}{z:Value}
  (g1:o1.guard=none) (pg:o1.dst=some d1) (tg:d1<E.N) (yh:o1.op=.makeSlice T x y)
  (ht:P.underlying T=some (.slice el)) (hi:P.info? el=some i) (hz:i.zero=some z) (pi:z.cells.size=i.size) (kq:0<i.size) (qnt:i.bytes≤2048) (hzok:∀v,v∈z.cells.toList→zOk v=true)
  (hx:l6 e true [x,y]) (hxv:e.getS x=.val (.int .i64 n)) (hyv:e.getS y=.val (.int .i64 m)) (u7:n≤m) (hn:n≤68719476736) (hm:m≤68719476737)
  (ue:∀c' a' w',Sim E.N c' (({ e with h:=e.h++[.uarr el i.size (List.replicate n (z.cells.toList.map qn5))] }:Env).put o1.dst (.own e.h.length n)) a' w'→E.ok c' (e.h++[.uarr el i.size (List.replicate n (z.cells.toList.map qn5))]) w'→wpList P ops Q rest a' w') :
  wpList P ops Q (o1::rest) a w:=by
 have l8:=qx s hx x ae;rw[hxv]at l8;have hvx:a.eval x=.int .i64 n:=l8.val_inv;have hry:=qx s hx y ae;rw[hyv]at hry;have hvy:a.eval y=.int .i64 m:=hry.val_inv;have hbb:i.bytes * m≤2048 * 68719476737:=Nat.mul_le_mul qnt hm;have jx:=run_make (P:=P) w T el i z ht hi hz .i64 .i64 (n:Int) (m:Int) aa aa (by
  have:(i.bytes:Int) * (m:Int)=((i.bytes * m:Nat):Int):=ae;omega) aa
 simp only[qld]at jx;have qg:∀q,q<m * i.size→(madeCells z.cells (m * i.size))[q]?=z.cells[q % i.size]?:=fun m hm=>by
  unfold madeCells;rw[gv];simp only[Array.getElem?_range,hm,if_true,fx,pi];have:m % i.size<z.cells.size:=qir;rw[fm this,getElem!_pos z.cells (m % i.size) this]
 have hnmi:n * i.size≤m * i.size:=fb _ u7;have jq:(madeCells z.cells (m * i.size)).size=m * i.size:=by simp[madeCells]
 have hU:=xsl (E:=E) (n:=n) (cap:=m) (sz:=i.size) (cur:=madeCells z.cells (m * i.size)) (rows:=List.replicate n (z.cells.toList.map qn5)) s.hs k el ae u7 qky hn (by
   intro r hr;rw[List.eq_of_mem_replicate hr];simp[pi]) jq (by
   intro i' j r x' hr mc;have hin:i'<n:=by
    have:=(cq.1 hr).1;simpa using this
   rw[qmn,if_pos hin]at hr;cases hr;rw[dq]at mc;obtain⟨u,hu,rfl⟩:=dn.1 mc;have hj:j<i.size:=by
    have:=(cq.1 hu).1;simpa[pi]using this
   have ib:i' * i.size+j<n * i.size:=by
    have:(i'+1) * i.size≤n * i.size:=fb _ hin;rw[Nat.succ_mul]at this;omega
   refine⟨u,?_,xij (hzok u (c7 hu))⟩;rw[dx,if_pos ib,fc,qg _ aa];have:(i' * i.size+j) % i.size=j:=by
    rw[qlk,Nat.mul_add_mod];exact Nat.mod_eq_of_lt hj
   rw[this,←fc];exact hu)
 obtain⟨ig,s1,k1⟩:=hU;refine qcs (G:=true) qfo (fun _=>?_) (fun h=>by cases h);refine wm (w':=w.alloc (.cells (madeCells z.cells (m * i.size)) el)) (v:=.slice (some ⟨w.heap.size,0,none⟩) n m) (by simp only[execOp,yh,hvx,hvy,dh,jx,dj,dy]) ?_;refine ue _ _ _ ?_ k1;exact s.put ig s1 (fun j hj=>by rw[pg]at hj;cases hj;exact tg) (.own _ _ _ bu rfl)
theorem jjv{c:Ctx}{e:Env}{a:Act}{w:World}(s:Sim E.N c e a w)(k:E.ok c e.h w){ops:Array Oper}{rest:List Oper}{o1:Oper}{Q:Exit→Act→World→Prop}{T el:TypeId}{x y:Operand}{d1 n m sz:Nat}{zr:List AV}
  (g1:o1.guard=none) (pg:o1.dst=some d1) (tg:d1<E.N) (yh:o1.op=.makeSlice T x y)
  (hT:ij P T=.slice el sz) (xv:ij P el≠.other) (pr:iy P el=sz) (kq:0<sz) (qnt:jn P el≤2048) (hzt:∀x,x∈jo P el→x≠.top) (hzr:(jo P el).map qpg=zr)
  (hx:l6 e true [x,y]) (hxv:e.getS x=.val (.int .i64 n)) (hyv:e.getS y=.val (.int .i64 m)) (u7:n≤m) (hn:n≤68719476736) (hm:m≤68719476737)
  (ue:∀c' a' w',Sim E.N c' (({ e with h:=e.h++[.uarr el sz (List.replicate n zr)] }:Env).put o1.dst (.own e.h.length n)) a' w'→E.ok c' (e.h++[.uarr el sz (List.replicate n zr)]) w'→wpList P ops Q rest a' w') :
  wpList P ops Q (o1::rest) a w:=by
 obtain⟨iT,dT,zT,_,r8,_,vz,_⟩:=lj hT ae;obtain⟨rfl,ie,lx,wv⟩:=xx vz;obtain⟨ie',de,ze,tp,_,hze,oh,hts,htz,pi,tf⟩:=lj (P:=P) (t:=el) rfl xv;rw[lx]at tp;cases tp;subst wv;have hb:ie.bytes≤2048:=by
  have:jn P el=ie.bytes:=by
   unfold jn;have ii:=xv;unfold ij at ii;split at ii
   ·rename_i x hx;obtain⟨i2,d2,z2,g1,_,_,rfl,_⟩:=qvk hx;rw[lx]at g1;cases g1;simp[hx]
   ·exact(ii rfl).elim
  omega
 have ix:∀v,v∈ze.cells.toList→qn5 v=qpg (tr v)∧zOk v=true:=fun v hv=>by
  have h1:tr v≠.top:=hzt _ qh6;obtain⟨h2,h3⟩:=xmk h1;exact⟨h2,h3 (tf v hv)⟩
 have ny:ze.cells.toList.map qn5=zr:=by
  rw[←hzr,htz,qlt];exact qmd fun v hv=>(ix v hv).1
 refine jkf s k g1 pg tg yh r8 lx hze pi kq hb (fun v hv=>(ix v hv).2) hx hxv hyv u7 hn hm ?_;rw[ny];exact ue
theorem ji8{c:Ctx}{e:Env}{a:Act}{w:World}(s:Sim E.N c e a w)(k:E.ok c e.h w){ops:Array Oper}{rest:List Oper}{o1 o2:Oper}{Q:Exit→Act→World→Prop}{T el:TypeId}{x y:Operand}{d1 n j i sz:Nat}{zr:List AV}{rows:List (List AV)}
  (g1:o1.guard=none) (g2:o2.guard=none) (pg:o1.dst=some d1) (tg:d1<E.N) (hd2:o2.dst=none) (yh:o1.op=.slice T x (some y) none none) (hop2:o2.op=.call { callee:=.builtin .clear,args:=#[.tmp d1],argTypes:=#[T] })
  (hT:ij P T=.slice el sz) (xv:ij P el≠.other) (pr:iy P el=sz) (kq:0<sz) (hzt:∀x,x∈jo P el→x≠.top) (hzr:(jo P el).map qpg=zr)
  (hx:l6 e true [x,y]) (hxv:e.getS x=.own i n) (hyv:e.getS y=.val (.int .i64 j)) (hi:e.h[i]?=some (.uarr el sz rows)) (hn:rows.length=n) (hj:j≤n)
  (ue:∀a' w',Sim E.N c (({ e with h:=e.h.set i (.uarr el sz (rows.take j++List.replicate (n - j) zr)) }:Env).put o1.dst .top) a' w'→E.ok c (e.h.set i (.uarr el sz (rows.take j++List.replicate (n - j) zr))) w'→wpList P ops Q rest a' w') :
  wpList P ops Q (o1::o2::rest) a w:=by
 obtain⟨iT,dT,zT,_,r8,_,vz,_⟩:=lj hT ae;obtain⟨rfl,ie,lx,wv⟩:=xx vz;obtain⟨ie',de,ze,tp,_,hze,oh,hts,htz,pi,tf⟩:=lj (P:=P) (t:=el) rfl xv;rw[lx]at tp;cases tp;subst wv;have ix:∀v,v∈ze.cells.toList→qn5 v=qpg (tr v)∧zOk v=true:=fun v hv=>by
  have h1:tr v≠.top:=hzt _ qh6;obtain⟨h2,h3⟩:=xmk h1;exact⟨h2,h3 (tf v hv)⟩
 have ny:ze.cells.toList.map qn5=zr:=by
  rw[←hzr,htz,qlt];exact qmd fun v hv=>(ix v hv).1
 have l8:=qx s hx x ae;rw[hxv]at l8;have hry:=qx s hx y ae;rw[hyv]at hry;have hvy:a.eval y=.int .i64 j:=hry.val_inv;obtain⟨hv,us,mi,nk,ym⟩:=xag s.hs hi hn l8;have hzv:(zeroValue el).run P w=.ok ze w:=qgf;have u6:d1<a.tmps.size:=qke;have fin:∀(v1:Value) (w':World),(Instr.sliceAt T (a.eval x) (some (.int .i64 j)) none none).run P w=.ok v1 w→(Builtin.clear_ #[T] o2.type #[v1]).run P w=.ok (.tuple #[]) w' →
   HSim c (e.h.set i (.uarr el ie.size (rows.take j++List.replicate (n - j) zr))) w'→E.ok c (e.h.set i (.uarr el ie.size (rows.take j++List.replicate (n - j) zr))) w'→wpList P ops Q (o1::o2::rest) a w:=by
  intro v1 w' h1 h2 s1 k1;refine qcs (G:=true) qfo (fun _=>?_) (fun h=>by cases h);refine wm (w':=w) (v:=v1) (by simp only[execOp,yh,hvy,fx,Option.map_none,dh,h1,dj,dy]) ?_;have hevd:(a.put o1.dst v1).eval (.tmp d1)=v1:=by rw[pg];simp[Act.put,Act.eval,u6]
  refine qcs (G:=true) qj3 (fun _=>?_) (fun h=>by cases h);refine wm (w':=w') (v:=.tuple #[]) (by simp only[execOp,hop2,resolve,invoke,builtin,dh,dy,dj,ql2,c8,e6,hevd,h2]) ?_;rw[hd2];exact ue _ w' (s.put (.refl c) s1 (fun q hq=>by rw[pg]at hq;cases hq;exact tg) (.top _)) k1
 have pn:∀(b:Option Addr) (cap:Nat),n≤cap→(Instr.sliceAt T (.slice b n cap) (some (.int .i64 j)) none none).run P w=.ok (.slice (if cap=j then b else b.map (·.add (j * ie.size))) (n - j) (cap - j)) w:=fun b cap hc=>by
  have hnj:¬(n<j):=aa;simp[Instr.sliceAt,Instr.slice,Instr.sliceBounds,Instr.sliceBound,asIntOf,po r8,hj,hnj,z8 lx]
 rcases mi.2 with⟨hnil,hn0⟩|⟨g,cap,cur,zm,hg0,hh,nz,pz,ma,u5⟩
 ·subst hn0;have hj0:j=0:=aa;subst hj0;have hr0:rows=[]:=fk hn;subst hr0;refine fin _ w (by rw[hnil];exact pn none 0 (ct _)) (by simp[Builtin.clear_,po r8]) ?_ ?_
  ·simp only[List.take_nil,ff,List.replicate_zero,e8];rw[qdc hi];exact s.hs
  ·simp only[List.take_nil,ff,List.replicate_zero,e8];rw[qdc hi];exact k
 ·by_cases hjn:j=n
  ·subst hjn;refine fin _ w (by rw[zm];exact pn _ cap nz) (by
    rw[ff];by_cases hq:cap=j
    ·simp[hq,Builtin.clear_,po r8]
    ·simp[hq,Builtin.clear_,po r8]) ?_ ?_
   ·simp only[ff,List.replicate_zero,e8];rw[fo aa,qdc hi];exact s.hs
   ·simp only[ff,List.replicate_zero,e8];rw[fo aa,qdc hi];exact k
  ·have ib:j<n:=aa;have hcj:cap≠j:=aa;have hmul:j * ie.size+(n - j) * ie.size=n * ie.size:=by rw[←fi];congr 1;omega
   have qv0:n * ie.size≤cap * ie.size:=fb _ nz;have hzc:(Builtin.zeroCells ze.cells (n - j)).size=(n - j) * ie.size:=by simp[Builtin.zeroCells,pi]
   have qg:∀q,q<(n - j) * ie.size→(Builtin.zeroCells ze.cells (n - j))[q]?=ze.cells[q % ie.size]?:=fun q hq=>by
    unfold Builtin.zeroCells;rw[gv];simp only[Array.getElem?_range,pi,hq,if_true,fx];have:q % ie.size<ze.cells.size:=qir;rw[fm this,getElem!_pos ze.cells (q % ie.size) this]
   have m7:∀u∈(Builtin.zeroCells ze.cells (n - j)).toList,u.oneCell'=true:=fun u hu=>by
    obtain⟨q,hq⟩:=dv hu;have xm:q<(n - j) * ie.size:=by rw[←hzc];have:=(cq.1 hq).1;simpa using this
    rw[fc,qg q xm]at hq;exact tf u (c7 (by rw[fc];exact hq))
   obtain⟨Z,hZ⟩:∃Z,Builtin.zeroCells ze.cells (n - j)=Z:=⟨_,rfl⟩
   rw[hZ]at hzc qg m7;have mj:=run_storeCells_at P g (j * ie.size) el Z.toList 0 cur w hh (by simp[hzc,ma];omega) m7;simp only[d6]at mj;have hadd:(⟨g,0,none⟩:Addr).add (j * ie.size)=⟨g,j * ie.size,none⟩:=by rw[xk,db]
   have hzl:zr.length=ie.size:=by rw[←ny];simp[pi]
   have hjm:min (j * ie.size) (cap * ie.size)=j * ie.size:=aa;have hjm2:min (j * ie.size) (n * ie.size)=j * ie.size:=aa;obtain⟨s1,k1⟩:=xhy (E:=E) s.hs k (w':=w.setRow g (cur.toList.take (j * ie.size)++Z.toList++cur.toList.drop (j * ie.size+Z.toList.length)).toArray) (rows':=rows.take j++List.replicate (n - j) zr) (us:=us.take (j * ie.size)++Z.toList) hi
    (by rw[hn,←zm];exact hv) am (fun r hr=>by
     rcases dt.1 hr with hr|hr
     ·exact nk r (gc hr)
     ·rw[List.eq_of_mem_replicate hr];exact hzl)
    ⟨by rw[cz,du,mi.1,qlq,hzc,hn,hjm2];omega,.inr ⟨g,cap,_,by rw[hn],di _,setRow_heap w g cur _ el (0,0) hh,by rw[hn];exact nz,pz,by simp only[qlj,cz,du,gd,qlq,hzc,ma,hjm];omega,by
     rw[hn];have e1:cur.toList.take (j * ie.size)=us.take (j * ie.size):=by rw[←u5,List.take_take];congr 1;omega
     simp only[e1];rw[qlx qhq,fo qhq]⟩⟩
    (fun i' q r x hr hx=>by
     by_cases h1:i'<j
     ·rw[cu am,dx,if_pos h1]at hr;obtain⟨u,hu,hd⟩:=ym i' q r x hr hx;have hq:q<ie.size:=by rw[←nk r (c7 hr)];exact(cq.1 hx).1
      have h2:(i'+1) * ie.size≤j * ie.size:=fb _ h1;rw[fi,qlb]at h2;refine⟨u,?_,hd⟩;rw[cu (by rw[du,mi.1,hjm2];omega),dx,if_pos aa];exact hu
     ·rw[cy am]at hr;have nq:i' - (rows.take j).length<n - j:=by
       have:=(cq.1 hr).1;simpa using this
      rw[qmn,if_pos nq]at hr;cases hr;have hq:q<ie.size:=by rw[←hzl];exact(cq.1 hx).1
      rw[←ny,dq]at hx;obtain⟨u,hu,rfl⟩:=dn.1 hx;refine⟨u,?_,xij (ix u (c7 hu)).2⟩;have hm:(rows.take j).length=j:=am;rw[hm]at nq;have h4:(i' - j) * ie.size+j * ie.size=i' * ie.size:=by rw[←fi];congr 1;omega
      have h5:(i' - j+1) * ie.size≤(n - j) * ie.size:=fb _ nq;rw[fi,qlb]at h5;have h6:(us.take (j * ie.size)).length=j * ie.size:=by rw[du,mi.1,hjm2]
      have h8:j * ie.size≤i' * ie.size:=fb _ aa;rw[cy aa,h6,show i' * ie.size+q - j * ie.size=(i' - j) * ie.size+q by omega,fc,qg _ aa];have h7:((i' - j) * ie.size+q) % ie.size=q:=by
       rw[qlk,Nat.mul_add_mod];exact Nat.mod_eq_of_lt hq
      rw[h7,←fc];exact hu) rfl rfl rfl qgw (fun b hb _=>setRow_other w g b _ hb)
   refine fin _ _ (by rw[zm];exact pn _ cap nz) (by
    rw[if_neg hcj];cases hq:n - j with
    |zero=>omega
    |succ q =>
     rw[hq]at hZ;simp only[Builtin.clear_,fx,hadd];simp[po r8,hzv,hZ,mj]) s1 k1
end
section
variable {P:Program} {E:Ent}
theorem xz2{c:Ctx}{h:gz}{w:World}(s:HSim c h w){i n el sz:Nat}{rows:List (List AV)}(hi:h[i]?=some (.oarr el sz rows))(hn:rows.length=n){v:Value}(hr:Rel c (.own i n) v)
  (hd:∀r,r∈rows→∀x,x∈r→(qq8 h x).isData=true):Rel (qp9 w) (.slice (rows.map fun r=>r.map (qq8 h))) v:=by
 obtain⟨hv,us,mi,nk,ym⟩:=xfm s hi hn hr;obtain⟨_,_,_,_,_,_,h3,_⟩:=s.obj i _ hi;refine .data (xi7 (c:=qp9 w) (fun _ _ _ h=>h) (by rw[ew,hn];exact mi) qgq (fun r je=>?_) (fun i' j r x je hx=>?_))
 ·obtain⟨r0,h0,rfl⟩:=dk.1 je;rw[ew];exact nk r0 h0
 ·rw[dq]at je;obtain⟨r0,h0,rfl⟩:=dn.1 je;rw[dq]at hx;obtain⟨x0,hx0,rfl⟩:=dn.1 hx;obtain⟨u,hu,jz,_⟩:=ym i' j r0 x0 h0 hx0;exact⟨u,hu,xb8 (hd r0 (c7 h0) x0 (c7 hx0)) (xlu s jz)⟩
theorem xuy{c:Ctx}{e:Env}{a:Act}{w:World}(s:Sim E.N c e a w)(k:E.ok c e.h w){ops:Array Oper}{rest:List Oper}{o:Oper}{Q:Exit→Act→World→Prop}{f:Operand}{args:Array Operand}{ts:Array TypeId}(g:o.guard=none)(hd:yw E.N o.dst)
  (ho:o.op=.call { callee:=.value f,args:=args,argTypes:=ts }) (ix:l6 e true (f::args.toList)) {fid:FuncId} (hf:e.getS f=.fn (.func fid) [] []) (V:Operand→AV)
  (hv:∀y,y∈args.toList→∀v,Rel c (e.getS y) v→Rel (qp9 w) (V y) v) {x:AV} (hP:APure P fid (args.toList.map V) x) (hx:xab x=true)
  (ue:∀a' w',Sim E.N c (e.put o.dst x) a' w'→E.ok c e.h w'→wpList P ops Q rest a' w'):wpList P ops Q (o::rest) a w:=by
 refine qcs (G:=true) (by simp[Region.wanted,g]) (fun _=>?_) (fun h=>by cases h);have jz:=qx s ix;have xd:=jz f ae;rw[hf]at xd;have hev:a.eval f=.func (.func fid) #[] #[]:=by
  generalize a.eval f=z at xd;cases xd with
  |data h=>cases h
  |fn f ys xs us vs pf hl h' h =>
   have h1:us = #[]:=qml pf;have h2:vs = #[]:=qml hl;rw[h1,h2]
 have qrh:RelL (qp9 w) (args.toList.map V) (args.map a.eval):=by
  refine⟨ae,fun j y v hy ph=>?_⟩;simp only[dq,dn]at hy;obtain⟨z,hz,rfl⟩:=hy;simp only[gv,dn]at ph;obtain⟨z',hz',rfl⟩:=ph;have:z'=z:=by
   rw[←fc,hz]at hz';exact(gh hz').symm
  subst this;exact hv z' (c7 hz) _ (jz z' (by simp[c7 hz]))
 have hA:=hP [];unfold Oper.wp;rw[qxz ho hev hA.1];simp only[qma,qmm];refine(hA.2 (qp9 w) w _ (xuf w) qrh).mono ?_;rintro en w' ⟨r,h',c',⟨rfl,rfl⟩,hE,jd,kb⟩;have zc:∀b,b<w.heap.size→w'.heap[b]?=w.heap[b]?:=fun b hb=>kb.frame b hb fun i o hi=>by simp at hi
 cases en with
 |returned u =>
  have wz:Rel c' x u:=hE;have wy:=s.hs.ext zc (.refl c) (fun _ _=>rfl) (fun _ _ _ h=>.inl h) s.hs.dom;exact ue _ w' (s.put (.refl c) wy (qxy hd) (xg8 hx wz)) (k.ext' s.hs zc (.refl c) (fun _=>rfl) kb.os kb.tape kb.output kb.size fun _ _ _ h=>.inl h)
 |_=>simp[EndR]at hE
end
end Go.Abs
namespace Go.Abs
theorem xo4{c:Ctx}{l:List Value}{vs:Array Value}(h:RelL c (l.map .val) vs):vs=l.toArray:=by
 apply Array.ext
 ·simpa using h.1
 ·intro i h1 h2;have h3:i<l.length:=ca;have:=h.2 i (.val l[i]) vs[i] (by simp[h3]) qgk;simpa using this.val_inv
theorem jlo{P:Program}{f:FuncId}{l:List Value}{r:Value}(hr:zz r=true)(he:qwf P f)(hc:∀w,Calls P f l.toArray w fun e w'=>e=.returned r∧w'=w):APure P f (l.map .val) (.val r):=fun h=>by
 refine⟨he,fun c w vs hs ha=>?_⟩;rw[xo4 ha];refine(hc w).mono ?_;rintro e w' ⟨rfl,rfl⟩;exact⟨.ret (.val r),h,c,⟨rfl,rfl⟩,.val r hr,hs,.refl 0 hs⟩
section
variable {P:Program} {E:Ent}
theorem xa0{c:Ctx}{h:gz}{w:World}(s:HSim c h w)(k:E.ok c h w){i b:Nat}{f f':Array Value→Obj}{xs:List AV}(hi:h[i]?=some (.raw b f xs)){vs:Array Value}(hv:w.heap[b]?=some (f vs))
  (uh:vs.size=xs.length∧∀(j:Nat) (x:AV) (v:Value),xs[j]?=some x→vs[j]?=some v→Rel c x v) :
  HSim c (h.set i (.raw b f' xs)) (w.putObj b (f' vs))∧E.ok c (h.set i (.raw b f' xs)) (w.putObj b (f' vs)):=by
 obtain⟨hb,_⟩:=s.obj i _ hi;have hh:=hv;have ib:b<w.heap.size:=(f0.1 hh).1;have o9:∀g,g≠b→(w.putObj b (f' vs)).heap[g]?=w.heap[g]?:=fun g hg=>World.putObj_heap_other hg;have qwq:(w.putObj b (f' vs)).heap[b]?=some (f' vs):=World.putObj_heap_same ib;have px:jb c i (.raw b f xs)=some b:=hb;have pr:(w.putObj b (f' vs)).heap.size=w.heap.size:=by simp[World.putObj]
 have o7:∀j p b',(h.set i (.raw b f' xs))[j]?=some p→jb c j p=some b'→∃o0,h[j]?=some o0∧jb c j o0=some b':=fun j p b' hj il=>by
  rcases l7 hj with⟨rfl,rfl⟩|⟨ii,h1⟩
  ·exact⟨_,hi,il⟩
  ·exact⟨p,h1,il⟩
 constructor
 ·refine⟨fun g j v hD=>?_,fun j hj=>s.dom j bf,fun j p hj=>?_,fun j j' p p' b' hj oq jw li=>?_,fun j p b' m v hj jw hD=>?_⟩
  ·have hg:g≠b:=fun e=>by
    subst e;exact s.sep i _ g j v hi px hD
   rw[World.cell?_of_block (w:=w) (o9 g hg)];exact s.data g j v hD
  ·rcases l7 hj with⟨rfl,rfl⟩|⟨ii,h1⟩
   ·exact⟨hb,vs,qwq,uh⟩
   ·refine(s.obj j p h1).keep (.refl c) (fun _=>rfl) fun b' il=>o9 b' fun e=>ii ?_;subst e;exact s.apart j i p _ b' h1 hi il px
  ·obtain⟨o1,h1,ll⟩:=o7 j p b' hj jw;obtain⟨o2,h2,vo⟩:=o7 j' p' b' oq li;exact s.apart j j' o1 o2 b' h1 h2 ll vo
  ·rcases l7 hj with⟨rfl,rfl⟩|⟨ii,h1⟩
   ·have:=s.sep j (.raw b f xs) b' m v hi jw hD;exact this
   ·exact s.sep j p b' m v h1 jw hD
 ·refine⟨k.edom,k.ext,k.blk0,bz,k.os,k.tape,k.output,qig,fun g hg iz=>?_,fun j p b' hj jw=>?_,k.dold⟩
  ·have ii:g≠b:=fun e=>by
    subst e;rcases k.newobj i _ g hi px with⟨o0,h0,h1⟩|h2
    ·exact iz i o0 h0 h1
    ·omega
   rw[o9 g ii];exact k.frame g hg iz
  ·obtain⟨o1,h1,ll⟩:=o7 j p b' hj jw;exact k.newobj j o1 b' h1 ll
theorem xwg{c:Ctx}{h:gz}{w:World}(s:HSim c h w)(k:E.ok c h w)(f:Array Value→Obj){xs:List AV}{vs:Array Value}
  (uh:vs.size=xs.length∧∀(j:Nat) (x:AV) (v:Value),xs[j]?=some x→vs[j]?=some v→Rel c x v) :
  ∃c',c.le c'∧HSim c' (h++[.raw w.heap.size f xs]) (w.alloc (f vs))∧E.ok c' (h++[.raw w.heap.size f xs]) (w.alloc (f vs)):=by
 have hw:∀b,b<w.heap.size→(w.alloc (f vs)).heap[b]?=w.heap[b]?:=fun b hb=>by first|exact heap_alloc_old w _ b hb|exact heap_alloc_old w _ hb
 have s1:HSim c h (w.alloc (f vs)):=s.ext hw (.refl c) (fun _ _=>rfl) (fun _ _ _ h=>.inl h) s.dom;have k1:E.ok c h (w.alloc (f vs)):=k.ext' s hw (.refl c) (fun _=>rfl) rfl rfl rfl (qfg w _) (fun _ _ _ h=>.inl h);have ig:c.le (c.addBlk h.length w.heap.size):=Ctx.addBlk_le (s.dom h.length (ct _)).1;have sn:(c.addBlk h.length w.heap.size).blk h.length=some w.heap.size:=qh4;have hb:∀b',jb (c.addBlk h.length w.heap.size) h.length (.raw w.heap.size f xs)=some b'→b'=w.heap.size:=fun b' il=>by
  simp only[jb,sn,d7]at il;exact il.symm
 exact⟨_,ig,s1.push (s.fresh (ct _)) (s.noD (ct _)) ⟨sn,vs,heap_alloc_new w _,uh.1,fun j x v hx hv=>(uh.2 j x v hx hv).mono ig⟩ hb,k1.push s1 k.size hb⟩
def WF(ro:Option Nat):Fence:={ Fence.wide with round:=ro }
theorem xl9{ro:Option Nat}{n:Nat}{f:FuncId}{args:Array Value}{w:World}{R:Ending→World→Prop}:CallsIn (WF ro) n P f args w R↔Calls P f args w R :=
 (show CallsIn (WF ro) n P f args w R↔CallsIn Fence.wide n P f args w R from Iff.rfl).trans callsIn_wide
theorem jd6{ro:Option Nat}{n:Nat}{row:String}{args:Array Value}{w:World}{R:Value→World→Prop}(h:Rows P row args w R):RowsIn (WF ro) n P row args w R:=fun c cs _=>by
 obtain⟨v,w',hR,hs⟩:=h c cs;exact⟨v,w',hR,(stepsIn_wide (P:=P)).2 hs⟩
def qvj:Op→Bool
 | .defer _=>true
 |_=>false
theorem xjf{ro:Option Nat}{n:Nat}{o:Oper}(hd:qvj o.op=false){a:Act}{w:World}{nx:Act→World→Prop}{Q:Exit→Act→World→Prop}(h:o.wp P a w nx Q):o.wpIn (WF ro) n P a w nx Q:=by
 refine⟨fun _ _=>trivial,?_⟩;rw[Oper.semAt_eq _ _ _ (fun c hc=>by rw[hc]at hd;cases hd)];unfold Oper.wp at h;generalize(execOp a.eval o).run P w=r at h⊢;cases r with
 |ok x w' =>
  cases x with
  |value v=>exact h
  |skip=>exact h
  |defer d=>exact h
  |enter f args=>exact⟨fun h=>(by cases h),xl9.2 (h.mono fun e w'' he=>by cases e<;>exact he)⟩
  |row r args=>exact⟨fun h=>(by cases h),jd6 h⟩
  |_=>exact h.elim
 |halt x w'=>cases x<;>first|exact h|exact h.elim
theorem xlc{ro:Option Nat}{n:Nat}{ops:Array Oper}{Q:Exit→Act→World→Prop}(hQ:¬LetsOut Q):∀{l:List Oper} {a:Act} {w:World},(l.all fun o=>!qvj o.op)=true→wpList P ops Q l a w→wpListIn (WF ro) n P ops Q l a w
 | [],_,_,_,h=>h
 |o::l,a,w,hd,h=>by
  simp only[qll,c0,qls]at hd;unfold wpList at h;unfold wpListIn;split at h
  ·rename_i hw;rw[if_pos hw];rcases h with h|⟨_,h⟩
   ·exact Oper.wpIn_mono (fun a w hh=>xlc hQ hd.2 hh) (xjf hd.1 h)
   ·exact(hQ h).elim
  ·rename_i hw;rw[if_neg hw];exact⟨fun _ _=>trivial,xlc hQ hd.2 h⟩
theorem xgi{ro:Option Nat}{n:Nat}{ops:Array Oper}{Q:Exit→Act→World→Prop}(hQ:¬LetsOut Q)(hd:∀(i:Nat) (o:Oper),ops[i]?=some o→qvj o.op=false):∀{lf:Nat} {L:Array Bool} {a:Act} {w:World},wpAny P .any ops Q lf L a w→wpAnyIn (WF ro) n P .any ops Q lf L a w
 | 0,_,_,_,h=>h
 |lf+1,L,a,w,h=>by
  refine⟨h.1,fun i hi=>?_⟩;have h1:=h.2 i hi;unfold wpOp at h1;unfold wpOpIn;split at h1
  ·rename_i ho;rw[ho];exact xgi hQ hd h1
  ·rename_i o ho;rw[ho];simp only;split at h1
   ·rename_i hw;rw[if_pos hw];rcases h1 with h1|⟨_,h1⟩
    ·exact Oper.wpIn_mono (fun a w hh=>xgi hQ hd hh) (xjf (hd i o ho) h1)
    ·exact(hQ h1).elim
   ·rename_i hw;rw[if_neg hw];exact⟨fun _ _=>trivial,xgi hQ hd h1⟩
def xa3(E:Ent)(Q:AExit→List Deferred→Env→Prop):Exit→Act→World→Prop:=fun x a w=>∃x' ds e c a0,a=mr ds a0∧Q x' ds e∧XR c x' x∧Sim E.N c e a0 w∧E.ok c e.h w
theorem jfy{Q:AExit→List Deferred→Env→Prop}:¬LetsOut (xa3 E Q):=fun ⟨a,w,x',ds,e,c,a0,_,_,hx,_⟩=>by cases x'<;>exact hx
theorem xfw{Q:AExit→List Deferred→Env→Prop}{ds:List Deferred}{x:Exit}{a:Act}{w:World}(h:qna E (fun x e=>Q x ds e) x a w):xa3 E Q x (mr ds a) w:=by
 obtain⟨x',e,c,hq,hx,s,k⟩:=h;exact⟨x',ds,e,c,a,rfl,hq,hx,s,k⟩
def sk(P:Program)(E:Ent)(ro:Option Nat)(code:Code)(Q:AExit→List Deferred→Env→Prop)(ds:List Deferred)(e:Env):Prop :=
 ∀n c a w,Sim E.N c e a w→E.ok c e.h w→code.wpIn (WF ro) n P (xa3 E Q) (mr ds a) w
def qzk(K:List Deferred→Env→Prop)(Q:AExit→List Deferred→Env→Prop):AExit→List Deferred→Env→Prop
 | .normal,ds,e=>K ds e
 |x,ds,e=>Q x ds e
def xel(id:Nat)(Q:AExit→List Deferred→Env→Prop):AExit→List Deferred→Env→Prop
 | .exit i,ds,e=>if i=id then Q .normal ds e else Q (.exit i) ds e
 |x,ds,e=>Q x ds e
variable {ro:Option Nat} {Q:AExit→List Deferred→Env→Prop} {ds:List Deferred} {e:Env}
theorem jlq{code:Code}{Q':AExit→List Deferred→Env→Prop}(h:sk P E ro code Q' ds e)(hq:∀x ds e,Q' x ds e→Q x ds e):sk P E ro code Q ds e:=fun n c a w s k =>
 wpIn_mono (h n c a w s k) fun _ _ _ ⟨x',uo,e',c',a0,h1,h2,h3⟩=>⟨x',uo,e',c',a0,h1,hq _ _ _ h2,h3⟩
theorem jm2{code:Code}{e1:Env}(hw:Wk E e e1)(h:sk P E ro code Q ds e1):sk P E ro code Q ds e:=fun n c a w s k=>by
 obtain⟨c1,s1,k1⟩:=hw c a w s k;exact h n c1 a w s1 k1
theorem xx4(h:Q .normal ds e):sk P E ro .skip Q ds e:=fun n c a w s k=>wpIn_skip ⟨.normal,ds,e,c,a,rfl,h,trivial,s,k⟩
theorem xqj(h:Q .ret ds e):sk P E ro .ret Q ds e:=fun n c a w s k=>wpIn_ret ⟨.ret,ds,e,c,a,rfl,h,trivial,s,k⟩
theorem jf3{id:Nat}(h:Q (.exit id) ds e):sk P E ro (.exit id) Q ds e:=fun n c a w s k=>wpIn_exit ⟨.exit id,ds,e,c,a,rfl,h,rfl,s,k⟩
theorem xfi{x y:Code}(h:sk P E ro x (qzk (fun ds e=>sk P E ro y Q ds e) Q) ds e):sk P E ro (.seq x y) Q ds e:=fun n c a w s k=>by
 refine wpIn_seq (wpIn_mono (h n c a w s k) ?_);rintro ex a' w' ⟨x',uo,e',c',a0,rfl,hq,hx,jd,ok'⟩;cases x' with
 |normal=>cases ex<;>simp only[XR]at hx;exact hq n c' a0 w' jd ok'
 |exit i=>cases ex<;>simp only[XR]at hx;exact⟨.exit i,uo,e',c',a0,rfl,hq,hx,jd,ok'⟩
 |ret=>cases ex<;>simp only[XR]at hx;exact⟨.ret,uo,e',c',a0,rfl,hq,trivial,jd,ok'⟩
 |panic v =>
  cases ex with
  |panic ch=>exact⟨.panic v,uo,e',c',a0,rfl,hq,hx,jd,ok'⟩
  |_=>simp only[XR]at hx
theorem jlj{id:Nat}{b:Code}(h:sk P E ro b (xel id Q) ds e):sk P E ro (.block id b) Q ds e:=fun n c a w s k=>by
 refine wpIn_block (wpIn_mono (h n c a w s k) ?_);rintro ex a' w' ⟨x',uo,e',c',a0,rfl,hq,hx,jd,ok'⟩;cases x' with
 |normal=>cases ex<;>simp only[XR]at hx;exact⟨.normal,uo,e',c',a0,rfl,hq,trivial,jd,ok'⟩
 |exit i =>
  cases ex with
  |exit j =>
   simp only[XR]at hx;subst hx;simp only[Exit.inBlock];simp only[xel]at hq;split
   ·rename_i hi;rw[if_pos hi]at hq;exact⟨.normal,uo,e',c',a0,rfl,hq,trivial,jd,ok'⟩
   ·rename_i hi;rw[if_neg hi]at hq;exact⟨.exit i,uo,e',c',a0,rfl,hq,rfl,jd,ok'⟩
  |_=>simp only[XR]at hx
 |ret=>cases ex<;>simp only[XR]at hx;exact⟨.ret,uo,e',c',a0,rfl,hq,trivial,jd,ok'⟩
 |panic v =>
  cases ex with
  |panic ch=>exact⟨.panic v,uo,e',c',a0,rfl,hq,hx,jd,ok'⟩
  |_=>simp only[XR]at hx
theorem jkd{x:Operand}{t f:Code}{b:Bool}(hb:e.get x=.val (.bool b))(ht:b=true→sk P E ro t Q ds e)(hf:b=false→sk P E ro f Q ds e):sk P E ro (.cond x t f) Q ds e :=
 fun n c a w s k=>wpIn_cond_split (Rel.bool (hb▸s.eval x)) (fun h=>ht h n c a w s k) (fun h=>hf h n c a w s k)
theorem jik{F:Fence}{n:Nat}{ι:Type}{c:Code}{Q:Exit→Act→World→Prop}{a:Act}{w:World}(I:ι→Act→World→Prop)(μ:ι→Nat)(i0:ι)(h₀:I i0 a w)
  (round:∀i a w,I i a w→c.wpIn F n P (Exit.then (fun a' w'=>∃j,I j a' w'∧μ j<μ i) Q) a w):(Code.loop c).wpIn F n P Q a w:=by
 intro b k cs hro hb hr;have key:∀m i a w,μ i=m→I i a w →
   ∃e a' w',Q e a' w'∧ArrivesIn (Machine.fenced P F) P (lone (b.atR a (.code c::.inLoop c::k)) cs w) b k cs e a' w':=by
  intro m
  induction m using Nat.strongRecOn with
  |_ m ih =>
   intro i a w hn hI;obtain⟨e,a₁,w₁,hq,qnb⟩:=round i a w hI b (.inLoop c::k) cs hro hb hr;cases e with
   |normal =>
    obtain⟨j,hI₁,ib⟩:=hq;obtain⟨e₂,a₂,w₂,hq₂,harr₂⟩:=ih (μ j) (hn▸ib) j a₁ w₁ rfl hI₁;exact⟨e₂,a₂,w₂,hq₂,.of_steps (StepsIn.trans qnb (.one (fenced_calm hb hr rfl) stepR_inLoop)) harr₂⟩
   |exit id=>exact⟨_,a₁,w₁,hq,.pass (x:=.inLoop c) rfl (fun _ _=>.inl ae) qnb⟩
   |goto l=>exact⟨_,a₁,w₁,hq,.pass (x:=.inLoop c) rfl (fun _ _=>.inl ae) qnb⟩
   |ret=>exact⟨_,a₁,w₁,hq,.pass (x:=.inLoop c) rfl (fun _ _=>.inl ae) qnb⟩
   |panic ch=>exact⟨_,a₁,w₁,hq,.pass (x:=.inLoop c) rfl (fun _ _=>.inl ae) qnb⟩
   |outgrown=>exact⟨_,a₁,w₁,hq,.pass (x:=.inLoop c) rfl (fun _ _=>.inl ae) qnb⟩
 obtain⟨e,a',w',hq,qnb⟩:=key _ i0 a w rfl h₀;exact⟨e,a',w',hq,.of_steps (.one (fenced_calm hb hr rfl) stepR_loop) qnb⟩
theorem jkn{ι:Type}{b:Code}(I:ι→Prop)(S:ι→List Deferred×Env)(μ:ι→Nat)(i0:ι)(h0:I i0)(hd:ds=(S i0).1)(hw:Wk E e (S i0).2)
  (round:∀i,I i→sk P E ro b (qzk (fun uo e'=>∃j,I j∧μ j<μ i∧uo=(S j).1∧Wk E e' (S j).2) Q) (S i).1 (S i).2):sk P E ro (.loop b) Q ds e:=fun n c a w s k=>by
 subst hd;refine jik (ι:=ι) (fun i a w=>I i∧∃c a0,a=mr (S i).1 a0∧Sim E.N c (S i).2 a0 w∧E.ok c (S i).2.h w) μ i0 ?_ ?_
 ·obtain⟨c1,s1,k1⟩:=hw c a w s k;exact⟨h0,c1,a,rfl,s1,k1⟩
 ·rintro i a w ⟨hI,c,a0,rfl,s,k⟩;refine wpIn_mono (round i hI n c a0 w s k) ?_;rintro ex a' w' ⟨x',uo,e',c',a1,rfl,hq,hx,jd,ok'⟩;cases x' with
  |normal =>
   cases ex<;>simp only[XR]at hx;obtain⟨j,hj,ib,rfl,hwk⟩:=hq;obtain⟨c2,s2,k2⟩:=hwk c' a1 w' jd ok';exact⟨j,⟨hj,c2,a1,rfl,s2,k2⟩,ib⟩
  |exit i=>cases ex<;>simp only[XR]at hx;exact⟨.exit i,uo,e',c',a1,rfl,hq,hx,jd,ok'⟩
  |ret=>cases ex<;>simp only[XR]at hx;exact⟨.ret,uo,e',c',a1,rfl,hq,trivial,jd,ok'⟩
  |panic v =>
   cases ex with
   |panic ch=>exact⟨.panic v,uo,e',c',a1,rfl,hq,hx,jd,ok'⟩
   |_=>simp only[XR]at hx
theorem jav{id:Nat}{l:List Oper}(hd:(l.all fun o=>!qvj o.op)=true)(h:qnz P E.N (fun x e=>Q x ds e) [] l e):sk P E ro (.region id l.toArray false) Q ds e:=fun n c a w s k =>
 wpIn_region_list (xlc jfy hd (xcf (fun _ _ _ hh=>xfw hh) (by simpa using qds l [] e ae bh c a w s k)))
end
end Go.Abs
