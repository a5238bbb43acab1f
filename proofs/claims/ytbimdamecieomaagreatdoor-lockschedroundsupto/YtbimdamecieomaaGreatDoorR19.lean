/- Part 19 of a proof. -/
import Derived.Lib.RowBridge
import Derived.Below
import GoSem.ClaimChange
import Derived.Test.YtbimdamecieomaaGreatDoorR18
set_option linter.all false
namespace Go.Abs
open Go.Proofs Go.Shelf Go.Sort Go.Lib
section
variable {P:Program} {E:Ent}
theorem jjc{ρ:Ren}(Ly:Lays2.n20 P ρ)(hEn:qwf P (ρ.f 20)){h:gz}{i T:Nat}{l:List Int}(hi:h[i]?=some (.uarr T 1 (l.map iR))) :
  ACalls P (ρ.f 20) [.own i l.length] h fun r h'=>r=.ret (.slice ((compact l).map iR))∧h'=h.set i (.arr T 1 ((compact l++List.replicate (l.length - (compact l).length) 0).map iR)):=by
 refine⟨hEn,fun c w vs hs ha=>?_⟩;have uh:vs = #[vs[0]!]:=by
  have:=ha.1;apply Array.ext
  ·simpa using this
  ·intro k h1 h2;have:k=0:=qk1;subst this;simp[getElem!_pos,h1]
 obtain⟨v,rfl⟩:∃v,vs = #[v]:=⟨_,uh⟩
 have hr:=ha.2 0 _ v rfl rfl;obtain⟨hv,us,mi,nk,ym⟩:=xag hs hi ae hr;have wg:us=l.map (Value.int .i64):=xwb (by rw[mi.1]) ym;have l9:(compact l).length≤l.length:=compact_length_le l;obtain⟨Z,hZ⟩:∃Z,compact l++List.replicate (l.length - (compact l).length) 0=Z:=⟨_,rfl⟩
 have hZl:Z.length=l.length:=by rw[←hZ];simp;omega
 -- what is left: the array written anew,then written no more
 have fin:∀(w':World) (cap g:Nat) (s1:HSim c (h.set i (.uarr T 1 (Z.map iR))) w') (k1:(⟨0,c,h,w⟩:Ent).ok c (h.set i (.uarr T 1 (Z.map iR))) w'),v=.slice (some ⟨g,0,none⟩) l.length cap→l.length≤cap →
   ∃r h' c',(r=.ret (.slice ((compact l).map iR))∧h'=h.set i (.arr T 1 (Z.map iR)))∧EndR c' r (.returned (.slice (some ⟨g,0,none⟩) (compact l).length cap))∧HSim c' h' w'∧(⟨0,c,h,w⟩:Ent).ok c' h' w':=by
  intro w' cap g s1 k1 hvg qv0;have nq:i<h.length:=(cq.1 hi).1;obtain⟨c',ig,s2,k2⟩:=xfc (E:=⟨0,c,h,w⟩) s1 k1 (i:=i) (ep nq);rw[gq]at s2 k2;obtain⟨v',us',g1,g2,g3,g4,g5,g6,g7,g8⟩:=s2.obj i _ (ep nq);refine⟨_,_,c',⟨rfl,rfl⟩,?_,s2,k2⟩;have hvv:v'=.slice (some ⟨g,0,none⟩) l.length cap:=by
   have h9:=ig.sl _ _ _ hv;simp only[ew,hZl]at g1;rw[h9,hvg]at g1;exact(gh g1).symm
  subst hvv;have hD:∀j,j<(compact l).length→c'.D g j=some (.int .i64 ((compact l).getD j 0)):=fun j hj=>by
   obtain⟨u,hu⟩:=g8 g j rfl (by simp[hZl];omega);have hZj:Z[j]?=some ((compact l).getD j 0):=by rw[←hZ,cu hj,fg,da hj];rfl
   obtain⟨u',vl,hd⟩:=g7 j 0 (iR ((compact l).getD j 0)) (.val (.int .i64 ((compact l).getD j 0))) (by rw[dq,hZj];rfl) rfl;cases hd;rw[qlz,d6]at vl;have hc:=g4.cells (g:=g) rfl j _ vl;rw[xk,db]at hc;have:=s2.data g j u hu;rw[hu];rw[this]at hc;exact hc
  show Rel c' (.slice ((compact l).map iR)) (.slice (some ⟨g,0,none⟩) (compact l).length cap);have hdr:=DRel.slice (D:=c'.D) ((compact l).map iR) g 0 cap 1 (fun i' j=>.int .i64 ((compact l).getD i' 0)) ae (by
    obtain⟨_,_,_,_,_,_,h3,_⟩:=hs.obj i _ hi;simp at h3⊢;omega) am (fun i' j r x je hx=>by
    rw[dq]at je;obtain⟨z,hz,rfl⟩:=dn.1 je;cases j with
    |succ j=>simp[iR]at hx
    |zero =>
     rw[db,qlz,d6];exact hD i' (cq.1 hz).1) (fun i' j r x je hx=>by
    rw[dq]at je;obtain⟨z,hz,rfl⟩:=dn.1 je;cases j with
    |succ j=>simp[iR]at hx
    |zero =>
     simp[iR]at hx;subst hx;rw[fg,hz];exact .val _ rfl rfl)
  simp only[ew]at hdr;exact .data hdr
 rcases mi.2 with⟨rfl,hn⟩|⟨g,cap,cur,rfl,_,hh,nz,pz,qv4,u5⟩
 ·have hl0:l=[]:=fk hn;subst hl0;refine(Any.slices_Compact_int_empty Ly none 0 w).mono ?_;rintro e w' ⟨rfl,rfl⟩;have hZ0:Z=[]:=fk (by simpa using hZl);have hc0:compact ([]:List Int)=[]:=fk aa;obtain⟨c',ig,s2,k2⟩:=xfc (E:=⟨0,c,h,w'⟩) hs (.refl 0 hs) hi;exact⟨_,_,c',⟨rfl,by rw[hZ,hZ0]⟩,by rw[hc0];exact .data .nil,s2,k2⟩
 ·have hH:=xw4 hh (by rw[u5,wg]) qv4 nz;have jr:l.length≤68719476736:=qjb;refine(Any.slices_Compact_int Ly g 0 cap l w hH aa nz).mono ?_;rintro e w' ⟨rfl,q,rfl⟩;rw[hZ];obtain⟨p1,p2⟩:=xue (w:=Sort.ahead w q) (d:=Z.toArray) hh;have qs2:(putCells (Value.int .i64) 0 Z.toArray cur).toList.take (l.length * 1)=Z.map (Value.int .i64):=by
   apply fy;intro k;rw[dx];by_cases hk:k<l.length * 1
   ·rw[if_pos hk,fc];have hkc:k<cur.size:=aa;have q9:k<Z.length:=aa;simp only[putCells,Array.getElem?_mapIdx,fm hkc,fx,qlj,di,db,true_and,Nat.sub_zero,q9,if_true,dq,da q9];simp[q9]
   ·rw[if_neg hk,fa (by simp[hZl];omega)]
  obtain⟨s1,k1⟩:=xhy (E:=⟨0,c,h,w⟩) hs (.refl 0 hs) (w':=putRow (Value.int .i64) (Sort.ahead w q) g 0 Z.toArray) (rows':=Z.map iR) (us:=Z.map (Value.int .i64)) hi bx (by simp[hZl]) ae
   ⟨by simp[hZl],.inr ⟨g,cap,_,ae,di _,p1,by simpa using nz,pz,by simp[putCells,qv4],by simpa using qs2⟩⟩
   (by simpa using xnv (D:=c.D) Z []) rfl rfl rfl (by simp[Sort.ahead]) (fun b hb ib=>by rw[p2 b hb];rfl)
  exact fin _ cap g s1 k1 rfl nz
end
end Go.Abs
namespace Go.Abs
section
variable {P:Program} {E:Ent}
theorem xql{c:Ctx}{e:Env}{a:Act}{w:World}(s:Sim E.N c e a w)(k:E.ok c e.h w){ops:Array Oper}{rest:List Oper}{o1:Oper}{Q:Exit→Act→World→Prop}{fid:FuncId}{args:Array Operand}{ts:Array TypeId}{d1:Nat}{x:AV}{h2:gz}
  (g1:o1.guard=none) (pg:o1.dst=some d1) (tg:d1<E.N) (ho:o1.op=.call { callee:=.value (.func fid),args:=args,argTypes:=ts })
  (ix:l6 e true args.toList) (hc:ACalls P fid (args.toList.map e.getS) e.h fun r h'=>r=.ret x∧h'=h2)
  (ue:∀c' a' w',Sim E.N c' (({ e with h:=h2 }:Env).put o1.dst x) a' w'→E.ok c' h2 w'→wpList P ops Q rest a' w') :
  wpList P ops Q (o1::rest) a w:=by
 have jz:=qx s ix;have qrh:RelL c (args.toList.map e.getS) (args.map a.eval):=RelL.map fun x hx=>jz x hx;refine qcs (G:=true) qfo (fun _=>?_) (fun h=>by cases h);unfold Oper.wp;rw[qxz (us:=#[]) (vs:=#[]) ho rfl hc.1];simp only[qma,qmm];refine(hc.2 c w _ s.hs qrh).mono ?_;rintro en w' ⟨r,h',c',⟨rfl,rfl⟩,hE,jd,kb⟩;cases en with
 |returned u=>exact ue c' _ w' (s.put kb.ext jd (fun j hj=>by rw[pg]at hj;cases hj;exact tg) hE) (k.trans kb)
 |_=>simp[EndR]at hE
end
end Go.Abs
namespace Go.Abs
open Go.Proofs
theorem xr7(E:Ent)(e:Env)(i t sz:Nat)(hi:kj e.t i=.nils):Wk E e ⟨(i,.own e.h.length 0)::e.t,e.h++[.uarr t sz []]⟩:=fun c a w s k=>by
 obtain⟨ig,s1,k1⟩:=xb4 s.hs k t sz;refine⟨_,⟨s.defers,s.size,fun j=>?_,s1⟩,k1⟩;simp only[kj];by_cases hj:i=j
 ·subst hj;simp only[beq_self_eq_true,cond_true];have:=s.tmps i;rw[hi]at this;rw[xbd this];exact .own _ _ _ bu rfl
 ·have:(i == j)=false:=bf;simp only[this,cond_false];exact(s.tmps j).mono ig
end Go.Abs
namespace Go.Abs
section
variable {P:Program} {E:Ent}
theorem xyf{c:Ctx}{e:Env}{a:Act}{w:World}(s:Sim E.N c e a w)(k:E.ok c e.h w){ops:Array Oper}{rest:List Oper}{o1:Oper}{Q:Exit→Act→World→Prop}{T el:TypeId}{x:Operand}{d1:Nat}
  (g1:o1.guard=none) (pg:o1.dst=some d1) (tg:d1<E.N) (yh:o1.op=.buildSlice T 1 #[(0,x)])
  (hT:ij P T=.slice el 1) (xv:ij P el≠.other) (jq:iy P el=1) (hx:l6 e true [x]) {v:Value} (hxv:e.getS x=.val v) (m7:v.oneCell'=true)
  (ue:∀c' a' w',Sim E.N c' (({ e with h:=e.h++[.arr el 1 [[.val v]]] }:Env).put o1.dst (.own e.h.length 1)) a' w'→E.ok c' (e.h++[.arr el 1 [[.val v]]]) w'→wpList P ops Q rest a' w') :
  wpList P ops Q (o1::rest) a w:=by
 have l8:=qx s hx x ae;rw[hxv]at l8;have hvx:a.eval x=v:=l8.val_inv;have xci:=xum (P:=P) hT xv jq m7 w;obtain⟨hle0,s0,k0⟩:=xb4 s.hs k el 1;have hi0:(e.h++[AObj.uarr el 1 []])[e.h.length]?=some (.uarr el 1 []):=ae;obtain⟨c1,qm6,s1,k1,r1⟩:=xi3 (E:=E) s0 k0 (w':=w.alloc (.cells #[v] el)) (v':=.slice (some ⟨w.heap.size,0,none⟩) 1 1) (rows':=[[.val v]]) (us:=[v]) hi0 (v:=.slice none 0 0) bu ae ae ae (fun i' j r x' hr mc=>by
   cases i' with
   |zero =>
    simp at hr;subst hr;cases j with
    |zero=>simp at mc;subst mc;exact⟨v,rfl,.val v m7 (qsm l8)⟩
    |succ j=>simp at mc
   |succ i'=>simp at hr) rfl ⟨rfl,.inr ⟨w.heap.size,1,#[v],rfl,di _,heap_alloc_new _ _,ct _,bc,rfl,rfl⟩⟩ rfl rfl rfl ae (.inr ⟨rfl,fun k hk=>heap_alloc_old _ _ hk⟩)
 have ss:(e.h++[AObj.uarr el 1 []]).set e.h.length (.uarr el 1 [[.val v]])=e.h++[.uarr el 1 [[.val v]]]:=ae;rw[ss]at s1 k1;obtain⟨c2,qu5,s2,k2⟩:=xfc (E:=E) s1 k1 (i:=e.h.length) (e:=el) (sz:=1) (rows:=[[.val v]]) ae;have hset2:(e.h++[AObj.uarr el 1 [[.val v]]]).set e.h.length (.arr el 1 [[.val v]])=e.h++[.arr el 1 [[.val v]]]:=ae;rw[hset2]at s2 k2;refine qcs (G:=true) qfo (fun _=>?_) (fun h=>by cases h);refine wm (w':=w.alloc (.cells #[v] el)) (v:=.slice (some ⟨w.heap.size,0,none⟩) 1 1) qgi ?_;refine ue c2 _ _ ?_ k2;exact s.put (hle0.trans (qm6.trans qu5)) s2 (fun j hj=>by rw[pg]at hj;cases hj;exact tg) (r1.mono qu5)
end
end Go.Abs
namespace Go.Abs
open Go.Proofs Go.Shelf
section
variable {P:Program} {E:Ent}
end
end Go.Abs
namespace Go.Abs
section
variable {H:Type} {enc:TypeId×Value→H} {P:Program} {w:World}
def quk(w:World)(b j:Nat):Option Value:=match w.cell? ⟨b,j,none⟩with
 |some (.int .u64 _)=>none
 |o=>o
def noU(v:Value):Prop:=∀n,v≠.int .u64 n
theorem jix{b j:Nat}{v:Value}(h:w.cell? ⟨b,j,none⟩=some v)(hv:noU v):quk w b j=some v:=by
 unfold quk;rw[h];split
 ·rename_i e;cases e;exact(hv _ rfl).elim
 ·rfl
theorem xwf{b j:Nat}{v:Value}(h:quk w b j=some v):w.cell? ⟨b,j,none⟩=some v∧noU v:=by
 unfold quk at h;split at h
 ·cases h
 ·rename_i hn;exact⟨h,fun n e=>hn n (by rw[h,e])⟩
structure Bulk(B:DataW H→Nat):Prop where
 str:∀s:List UInt8,s.length≤B (.lit (.string s))
 len:∀e s,e.length≤B (.slice e s)
 sl:∀e s x,x∈e→B x≤B (.slice e s)
 agg:∀ps x,x∈ps→B x≤B (.agg ps)
def DL(w:World):List AV→List Value→Prop
 | [],[]=>True
 |x::xs,v::vs=>(DRel (quk w) x v∧noU v)∧DL w xs vs
 |_,_=>False
theorem DL.len:∀{xs:List AV} {vs:List Value},DL w xs vs→xs.length=vs.length
 | [],[],_=>rfl
 |x::xs,v::vs,h=>by simp[DL.len h.2]
 | [],_::_,h=>h.elim
 |_::_,[],h=>h.elim
theorem DL.get:∀{xs:List AV} {vs:List Value},DL w xs vs→∀{j:Nat} {x:AV},xs[j]?=some x→∃v,vs[j]?=some v∧DRel (quk w) x v∧noU v
 | [],[],_,j,x,hx=>by simp at hx
 |x::xs,v::vs,h,0,y,hy=>by simp at hy;subst hy;exact⟨v,rfl,h.1⟩
 |x::xs,v::vs,h,j+1,y,hy=>by
  obtain⟨u,h1,h2⟩:=DL.get h.2 (j:=j) (by simpa using hy);exact⟨u,av,h2⟩
 | [],_::_,h,_,_,_=>h.elim
 |_::_,[],h,_,_,_=>h.elim
theorem DL.app:∀{xs ys:List AV} {us vs:List Value},DL w xs us→DL w ys vs→DL w (xs++ys) (us++vs)
 | [],ys,[],vs,_,k=>k
 |x::xs,ys,u::us,vs,h,k=>⟨h.1,DL.app h.2 k⟩
 | [],_,_::_,_,h,_=>h.elim
 |_::_,_,[],_,h,_=>h.elim
variable (enc P w) in
def Rd(B:DataW H→Nat)(L n:Nat)(t:TypeId)(Q:List AV→Prop):Prop :=
 ∀lf cs d ps,lf≤n→DataW.trod enc P w 0 (fun _=>true) true lf t cs=some (d,ps)→B d≤L→∃xs,DL w xs cs∧Q xs
variable {B:DataW H→Nat} {L n:Nat} {t:TypeId}
theorem Rd.mono{Q Q':List AV→Prop}(h:Rd enc P w B L n t Q)(hq:∀xs,Q xs→Q' xs):Rd enc P w B L n t Q':=fun lf cs d ps hf ht hb=>by
 obtain⟨xs,h1,h2⟩:=h lf cs d ps hf ht hb;exact⟨xs,h1,hq xs h2⟩
theorem Rd.le{m:Nat}{Q:List AV→Prop}(h:Rd enc P w B L n t Q)(hm:m≤n):Rd enc P w B L m t Q:=fun lf cs d ps hf=>h lf cs d ps (d9 hf hm)
theorem Rd.zero{Q:List AV→Prop}:Rd enc P w B L 0 t Q:=fun lf cs d ps hf ht=>by
 have:lf=0:=aa;subst this;simp[DataW.trod]at ht
def qqn(k:IntKind)(xs:List AV):Prop:=∃z,xs=[.val (.int k z)]∧k.min≤z∧z≤k.max
def xfd(xs:List AV):Prop:=∃b,xs=[.val (.bool b)]
def qt3(L:Nat)(xs:List AV):Prop:=∃s:ByteArray,xs=[.val (.string s)]∧s.size≤L
def qSl(L:Nat)(Q:List AV→Prop)(xs:List AV):Prop:=∃rows,xs=[.slice rows]∧rows.length≤L∧∀r,r∈rows→Q r
theorem xwv{k:IntKind}(hk:k≠.u64)(ht:P.underlying t=some (.int k)):Rd enc P w B L n t (qqn k):=fun lf cs d ps _ h _=>by
 cases lf with
 |zero=>simp[DataW.trod]at h
 |succ f =>
  unfold DataW.trod at h;simp only[ht]at h;split at h
  all_goals first
   |(exfalso;rename_i e;simp at e;done)
   |skip
  ·rename_i k0 k1 z e;cases e;split at h
   ·rename_i hc;obtain⟨rfl,hw⟩:=hc;simp only[Lit.wf,c0,decide_eq_true_eq]at hw;exact⟨[.val (.int _ z)],⟨⟨.val _ rfl rfl,fun m e=>by cases e;exact hk rfl⟩,trivial⟩,z,rfl,hw⟩
   ·cases h
  all_goals cases h
theorem xz3(ht:P.underlying t=some .bool):Rd enc P w B L n t xfd:=fun lf cs d ps _ h _=>by
 cases lf with
 |zero=>simp[DataW.trod]at h
 |succ f =>
  unfold DataW.trod at h;simp only[ht]at h;split at h
  all_goals first
   |(exfalso;rename_i e;simp at e;done)
   |skip
  ·rename_i b _;exact⟨[.val (.bool b)],⟨⟨.val _ rfl rfl,fun m e=>by cases e⟩,trivial⟩,b,rfl⟩
  all_goals cases h
theorem xx0(hB:Bulk B)(hL:L≤68719476736)(ht:P.underlying t=some .string):Rd enc P w B L n t (qt3 L):=fun lf cs d ps _ h hb=>by
 cases lf with
 |zero=>simp[DataW.trod]at h
 |succ f =>
  unfold DataW.trod at h;simp only[ht]at h;split at h
  all_goals first
   |(exfalso;rename_i e;simp at e;done)
   |skip
  ·rename_i s _;split at h
   ·cases h;have h1:=hB.str s.data.toList;have h2:s.size=s.data.toList.length:=rfl;have h3:s.size≤L:=aa;have h4:s.size≤68719476736:=d9 h3 hL;exact⟨[.val (.string s)],⟨⟨.val _ rfl (by rw[zz,decide_eq_true_eq];exact h4),fun m e=>by cases e⟩,trivial⟩,s,rfl,h3⟩
   ·cases h
  all_goals cases h
theorem xf8{α β:Type}{f:α→Option β}:∀{l:List α} {r:List β},l.mapM f=some r→r.length=l.length∧∀(i:Nat) (x:α),l[i]?=some x→∃y,r[i]?=some y∧f x=some y
 | [],r,h=>by
  simp at h;subst h;exact⟨rfl,fun i x hx=>by simp at hx⟩
 |x::l,r,h=>by
  rw[List.mapM_cons]at h;simp only[Option.bind_eq_bind,qmo,Option.pure_def,d7]at h;obtain⟨y,hy,r',hr,rfl⟩:=h;obtain⟨h1,h2⟩:=xf8 hr;refine⟨qgk,fun i z hz=>?_⟩;cases i with
  |zero=>simp at hz;subst hz;exact⟨y,rfl,hy⟩
  |succ i =>
   obtain⟨u,h3,h4⟩:=h2 i z (by simpa using hz);exact⟨u,qgq,h4⟩
theorem xc8{n i:Nat}(h:i<n):(List.range n)[i]?=some i:=co
theorem xuu{a:Addr}{n:Nat}{cs:List Value}(h:w.cells? 0 a n=some cs):cs.length=n∧∀j v,cs[j]?=some v→w.cell? (a.add j)=some v:=by
 unfold World.cells? at h;rw[if_pos (di _)]at h;obtain⟨h1,h2⟩:=xf8 h;rw[List.length_range]at h1;refine⟨h1,fun j v hv=>?_⟩;have hj:j<n:=by rw[←h1];exact(cq.1 hv).1
 obtain⟨y,h3,h4⟩:=h2 j j (xc8 hj);rw[hv]at h3;cases h3;exact h4
theorem jip{a:Addr}{v:Value}(h:w.cell? a=some v):a.spot=none:=by
 unfold World.cell? at h;split at h
 ·split at h
  ·cases h
  ·rename_i hs;simpa using hs
 ·cases h
theorem add_add(a:Addr)(i j:Nat)(hs:a.spot=none):(a.add i).add j=⟨a.block,a.off+i+j,none⟩:=by
 obtain⟨b,o,s⟩:=a;simp only at hs;subst hs;unfold Addr.add;split<;>split<;>simp_all
theorem xyd(hB:Bulk B)(hL:L≤68719476736){e:TypeId}(ht:P.underlying t=some (.slice e)){sz:Nat}(jq:P.cellsOf e=sz)(h0:0<sz){Q:List AV→Prop}(hl:∀xs,Q xs→xs.length=sz)(he:Rd enc P w B L n e Q) :
  Rd enc P w B L n t (qSl L Q):=fun lf cs d ps hf h hb=>by
 cases lf with
 |zero=>simp[DataW.trod]at h
 |succ f =>
  unfold DataW.trod at h;simp only[ht]at h;split at h
  all_goals first
   |(exfalso;rename_i e;simp at e;done)
   |skip
  ·exact⟨[.slice []],⟨⟨.nil,fun m e=>by cases e⟩,trivial⟩,[],rfl,di _,ae⟩
  ·rename_i e' a len cap e1;cases e1;simp only[jq,if_true]at h;split at h
   ·rename_i hc;obtain⟨_,hlc,pz⟩:=hc;simp only[qmo,dn]at h;obtain⟨elems,xv,rest,hre,hx⟩:=h;cases hx;obtain⟨e2,e3⟩:=xf8 xv;obtain⟨r2,r3⟩:=xf8 hre;rw[List.length_range]at e2 r2;have jr:=hB.len (elems.map (·.1)) (rest.map (·.1))
    rw[ew]at jr;have hspot:∀k y,((w.cells? 0 (a.add (k * sz)) sz).bind (DataW.trod enc P w 0 (fun _=>true) true f e))=some y→k=0→a.spot=none:=by
     intro k y hy hk;subst hk;rw[qmo]at hy;obtain⟨cs,ma,_⟩:=hy;obtain⟨c1,c2⟩:=xuu ma;have ib:0<cs.length:=aa;have:=jip (c2 0 cs[0] ae);simpa[Addr.add]using this
    by_cases hz:cap=0
    ·have hl0:len=0:=aa;subst hl0;subst hz;exact⟨[.slice []],⟨⟨.empty a,fun m e=>by cases e⟩,trivial⟩,[],rfl,di _,ae⟩
    have hs:a.spot=none:=by
     by_cases hl0:len=0
     ·subst hl0;obtain⟨y,_,hy⟩:=r3 0 0 (xc8 aa);exact hspot (0+0) y hy rfl
     ·obtain⟨y,_,hy⟩:=e3 0 0 (xc8 aa);exact hspot 0 y hy rfl
    have ny:∀i,i<len→∃xs,Q xs∧∀(j:Nat) (x:AV),xs[j]?=some x→∃v,w.cell? ⟨a.block,a.off+i * sz+j,none⟩=some v∧DRel (quk w) x v∧noU v:=by
     intro i hi;obtain⟨y,hy,hy2⟩:=e3 i i (xc8 hi);rw[qmo]at hy2;obtain⟨cs,ma,htr⟩:=hy2;have hm:y.1∈elems.map (·.1):=ql4 (c7 hy)
     obtain⟨xs,hd,hq⟩:=he f cs y.1 y.2 aa htr (d9 (hB.sl _ _ _ hm) hb);refine⟨xs,hq,fun j x hx=>?_⟩;obtain⟨v,hv,pg,hd2⟩:=hd.get hx;have:=(xuu ma).2 j v hv;rw[add_add _ _ _ hs]at this;exact⟨v,this,pg,hd2⟩
    obtain⟨rows,nk,hrp⟩:=xeq (fun i xs=>Q xs∧∀(j:Nat) (x:AV),xs[j]?=some x→∃v,w.cell? ⟨a.block,a.off+i * sz+j,none⟩=some v∧DRel (quk w) x v∧noU v) len ny;have mw:∀(i j:Nat) (r:List AV) (x:AV),rows[i]?=some r→r[j]?=some x→w.cell? ⟨a.block,a.off+i * sz+j,none⟩=some ((w.cell? ⟨a.block,a.off+i * sz+j,none⟩).getD undef)∧DRel (quk w) x ((w.cell? ⟨a.block,a.off+i * sz+j,none⟩).getD undef)∧noU ((w.cell? ⟨a.block,a.off+i * sz+j,none⟩).getD undef):=by
     intro i j r x hr hx;obtain⟨v,h1,h2,h3⟩:=(hrp i r hr).2 j x hx;rw[h1];exact⟨rfl,h2,h3⟩
    have hlL:len≤L:=by rw[←e2];exact d9 jr hb
    have hq:∀r,r∈rows→Q r:=fun r hr=>by
     obtain⟨i,hi⟩:=dv hr;exact(hrp i r hi).1
    refine⟨[.slice rows],⟨⟨?_,fun m e=>by cases e⟩,trivial⟩,rows,rfl,aa,hq⟩;obtain⟨ab,ao,asp⟩:=a;simp only at hs;subst hs;subst nk;exact .slice rows ab ao cap sz (fun i j=>(w.cell? ⟨ab,ao+i * sz+j,none⟩).getD undef) (fun r hr=>hl r (hq r hr)) (d9 hlL hL) hlc (fun i j r x hr hx=>jix (mw i j r x hr hx).1 (mw i j r x hr hx).2.2) (fun i j r x hr hx=>(mw i j r x hr hx).2.1)
   ·cases h
  all_goals cases h
variable (enc P w) in
def qsf(B:DataW H→Nat)(L n:Nat):Nat→List Field→List (List AV→Prop)→Nat→Prop
 |o,[],[],e=>o=e
 |o,f::fs,Q::Qs,e=>f.offset=o∧(∃k,P.cellsOf f.type=k∧Rd enc P w B L n f.type Q∧(∀xs,Q xs→xs.length=k)∧qsf B L n (o+k) fs Qs e)
 |_,_,_,_=>False
def qzl:List (List AV)→List (List AV→Prop)→Prop
 | [],[]=>True
 |p::ps,Q::Qs=>Q p∧qzl ps Qs
 |_,_=>False
theorem xvn{f:Nat}(hfn:f≤n)(cs:List Value):∀{fs:List Field} {Qs:List (List AV→Prop)} {o:Nat} {xs:List (DataW H×List MemPlace)},qsf enc P w B L n o fs Qs cs.length →
  fs.mapM (fun x=>DataW.trod enc P w 0 (fun _=>true) true f x.type ((cs.drop x.offset).take (P.cellsOf x.type)))=some xs→(∀x,x∈xs→B x.1≤L) →
  ∃ps,qzl ps Qs∧DL w ps.flatten (cs.drop o)
 | [],[],o,xs,h,hm,_=>⟨[],trivial,by
   have:o=cs.length:=h;rw[this,List.drop_length];exact trivial⟩
 |x::fs,Q::Qs,o,xs,h,hm,hb=>by
  obtain⟨rfl,k,rfl,hr,hql,zo⟩:=h;rw[List.mapM_cons]at hm;simp only[Option.bind_eq_bind,qmo,Option.pure_def,d7]at hm;obtain⟨y,hy,r',je,rfl⟩:=hm;obtain⟨ps,p1,p2⟩:=xvn hfn cs zo je fun z hz=>hb z (by simp[hz]);obtain⟨q,q1,q2⟩:=hr f _ y.1 y.2 hfn hy (hb y ae);refine⟨q::ps,⟨q2,p1⟩,?_⟩;have:=DL.app q1 p2;rw[List.flatten_cons];rw[show cs.drop x.offset=(cs.drop x.offset).take (P.cellsOf x.type)++cs.drop (x.offset+P.cellsOf x.type)by rw[←List.drop_drop,qlh]];exact this
 | [],_::_,_,_,h,_,_=>h.elim
 |_::_,[],_,_,h,_,_=>h.elim
theorem qfb(hB:Bulk B){fs:Array Field}(ht:P.underlying t=some (.struct fs)){Qs:List (List AV→Prop)}(hF:qsf enc P w B L n 0 fs.toList Qs (P.cellsOf t)) :
  Rd enc P w B L (n+1) t fun xs=>∃ps,qzl ps Qs∧xs=ps.flatten:=fun lf cs d ps hf h hb=>by
 cases lf with
 |zero=>simp[DataW.trod]at h
 |succ f =>
  unfold DataW.trod at h;simp only[ht]at h;split at h
  ·rename_i hc;simp only[dn]at h;obtain⟨xs,hx,e2⟩:=h;cases e2;rw[←hc]at hF;obtain⟨qs,h1,h2⟩:=xvn (f:=f) aa cs hF hx fun x mc=>d9 (hB.agg _ _ (ql4 mc)) hb;exact⟨qs.flatten,ca,qs,h1,rfl⟩
  ·cases h
theorem rt{ps:List (List AV)}{Q:List AV→Prop}{Qs:List (List AV→Prop)}(h:qzl ps (Q::Qs)):∃p ps',ps=p::ps'∧Q p∧qzl ps' Qs:=by
 cases ps with
 |nil=>exact h.elim
 |cons p ps'=>exact⟨p,ps',rfl,h.1,h.2⟩
theorem qfc{ps:List (List AV)}(h:qzl ps []):ps=[]:=by
 cases ps with
 |nil=>rfl
 |cons p ps'=>exact h.elim
theorem qvo{k:IntKind}:∀xs,qqn k xs→xs.length=1:=by rintro _ ⟨z,rfl,_⟩;rfl
theorem jhc:∀xs,xfd xs→xs.length=1:=by rintro _ ⟨z,rfl⟩;rfl
theorem qxu{L:Nat}:∀xs,qt3 L xs→xs.length=1:=by rintro _ ⟨z,rfl,_⟩;rfl
theorem xr4{α:Type}{c:α→List AV}{zd:α→Prop}:∀{rows:List (List AV)},(∀r,r∈rows→∃a,r=c a∧zd a)→∃l:List α,rows=l.map c∧∀a∈l,zd a
 | [],_=>⟨[],rfl,ae⟩
 |r::rows,h=>by
  obtain⟨a,rfl,ha⟩:=h r ae;obtain⟨l,rfl,hl⟩:=xr4 (rows:=rows) fun r hr=>h r qg0;refine⟨a::l,rfl,fun b hb=>?_⟩;rcases cw.1 hb with rfl|hb
  ·exact ha
  ·exact hl b hb
def qte(w:World)(g:Nat):Ctx:=⟨quk w,fun i=>if i=0 then some g else none,fun _ _=>none⟩
theorem xyb{g:Nat}{tab:Array Value}{T:TypeId}{x:Nat×Nat}(hg:w.heap[g]?=some (.cells tab T x))(htab:∀(j:Nat) (v:Value),tab[j]?=some v→∃n,v=.int .u64 n) :
  HSim (qte w g) [.raw g (fun _=>.cells tab T x) []] w where
 data:=fun b j v h=>(xwf h).1
 dom:=fun i hi=>by
  have:i≠0:=by simp at hi;omega
  exact⟨by simp[qte,this],fun m=>rfl⟩
 obj:=fun i o hi=>by
  cases i with
  |zero =>
   simp at hi;subst hi;exact⟨by simp[qte],#[],hg,rfl,fun j x v hx=>by simp at hx⟩
  |succ i=>simp at hi
 apart:=fun i j o o' b hi hj _ _=>by
  have h1:=(cq.1 hi).1;have h2:=(cq.1 hj).1;simp at h1 h2;omega
 sep:=fun i o b j v hi hb hD=>by
  cases i with
  |zero =>
   simp at hi;subst hi;simp[jb,qte]at hb;subst hb;obtain⟨h1,h2⟩:=xwf hD;unfold World.cell? at h1;simp only[hg]at h1;have ll:tab[j]?=some v:=av;obtain⟨n,rfl⟩:=htab j v ll;exact(h2 n rfl).elim
  |succ i=>simp at hi
theorem xz0{g:Nat}{x:AV}{v:Value}(h:DL w [x] [v]):Rel (qte w g) x v:=.data h.1.1
theorem jeo{g:Nat}{xs:List AV}{cs:Array Value}(h:DL w xs cs.toList):Rel (qte w g) (.agg xs) (.agg cs):=by
 have hl:=h.len;refine .agg xs cs (by simpa using hl.symm) (fun j v hv=>?_) fun j x v hx hv=>?_
 ·have hj:j<xs.length:=by
   have:=(f0.1 hv).1;rw[hl];simpa using this
  obtain⟨u,h1,h2,_⟩:=h.get (j:=j) (x:=xs[j]) ae;have:cs.toList[j]?=some v:=bx;rw[h1]at this;cases this;exact h2.one
 ·obtain⟨u,h1,h2,_⟩:=h.get hx;have:cs.toList[j]?=some v:=bx;rw[h1]at this;cases this;exact .data h2
theorem jce{f:FuncId}{args:Array Value}{avs:List AV}{g:Nat}{tab:Array Value}{T:TypeId}{x:Nat×Nat}(hg:w.heap[g]?=some (.cells tab T x))(htab:∀(j:Nat) (v:Value),tab[j]?=some v→∃n,v=.int .u64 n)
  (hr:RelL (qte w g) avs args) (hA:ACalls P f avs [.raw g (fun _=>.cells tab T x) []] fun r h'=>r=.ret (.val (.bool true))∧h'=[.raw g (fun _=>.cells tab T x) []]) :
  Calls P f args w fun e w'=>e=.returned (.bool true)∧RowKit.Below w.heap.size w w':=by
 refine(hA.2 _ w args (xyb hg htab) hr).mono ?_;rintro e w' ⟨r,h',c',⟨rfl,rfl⟩,hE,hs,ok⟩;refine⟨?_,ok.os,ok.tape,ok.output,ok.size,fun k hk=>?_⟩
 ·unfold EndR at hE;split at hE
  ·rename_i x0 v e1;cases e1;rw[Rel.val_inv hE]
  ·rename_i e1;cases e1
  ·exact hE.elim
 ·by_cases hkg:k=g
  ·subst hkg;obtain⟨_,vs,h1,h2,_⟩:=hs.obj 0 _ rfl;have:vs = #[]:=qml ca;rw[h1,hg]
  ·refine ok.frame k hk fun i o hi hb=>?_;cases i with
   |zero =>
    simp at hi;subst hi;simp[jb,qte]at hb;exact hkg hb.symm
   |succ i=>simp at hi
end
end Go.Abs
