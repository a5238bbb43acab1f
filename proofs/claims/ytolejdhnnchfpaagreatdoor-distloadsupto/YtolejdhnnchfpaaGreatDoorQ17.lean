/- Part 17 of a proof. -/
import Derived.Shelf.Sort.Plain
import Derived.Shelf.Slices.CompactI
import Derived.Shelf.Slices.In.SortNone
import Derived.Lib.RowBridge
import Derived.Lib.SliceRun
import Derived.Test.YtolejdhnnchfpaaGreatDoorQ16
set_option linter.all false
namespace Go.Abs
section
variable {P:Program} {E:Ent}
theorem xjw{code:Code}{Q:AExit->List Deferred->Env->Prop}{e:Env}(h:AWp P E code (λx e=>Q x [] e) e):qf P E none code Q [] e:=λn c a w s k=>by
 have e0:∀a:Act,nb [] a=a:=λa=>by simp[nb]
 rw[e0];refine wpIn_mono ((wpIn_wide (n:=n)).2 (h c a w s k)) λx a' w' hh=>?_;have:=xdq (Q:=Q) (ds:=[]) hh
 rwa [e0]at this
theorem AYield.mono{l:Nat}{args:List AV}{h:g9}{R R':AEnd->g9->Prop}(k:AYield P l args h R)(hr:∀r h',R r h'->R' r h'):AYield P l args h R':=λm c w vs hs ha=>by
 obtain⟨fn,tmps,ll,body,h1,h2⟩:=k m c w vs hs ha;refine⟨fn,tmps,ll,body,h1,h2.mono ?_⟩;rintro e w' ⟨r,h',c',hR,x⟩;exact⟨r,h',c',hr _ _ hR,x⟩
def xsi(P:Program)(E:Ent)(ro:Option Nat)(c:Code)(Q:AExit->List Deferred->Env->Prop)(ds:List Deferred)(e:Env)(_:Tag (c,Q)):Prop:=qf P E ro c Q ds e
def qvj(P:Program)(E:Ent)(ro:Option Nat):Code->(AExit->List Deferred->Env->Prop)->List Deferred->Env->Prop
 | .skip,Q,ds,e=>Q .normal ds e
 | .region _ ops false,Q,ds,e=>(ops.toList.all λo=>!qtd o.op)=true/\qks P E.N (λx e=>Q x ds e) [] ops.toList e
 | .seq a b,Q,ds,e=>qvj P E ro a (qu2 (qvj P E ro b Q) Q) ds e
 | .cond x a b,Q,ds,e=>match e.get x with
  | .val (.bool c)=>Cnd c e (qvj P E ro a Q ds) (qvj P E ro b Q ds) ⟨⟩ ⟨⟩
  |_=>False
 | .block id b,Q,ds,e=>qvj P E ro b (qz6 id Q) ds e
 | .exit id,Q,ds,e=>Q (.exit id) ds e
 | .ret,Q,ds,e=>Q .ret ds e
 |c,Q,ds,e=>xsi P E ro c Q ds e ⟨⟩
theorem qbq{ro:Option Nat}:∀(c:Code) (Q:AExit->List Deferred->Env->Prop) (ds:List Deferred) (e:Env),qvj P E ro c Q ds e->qf P E ro c Q ds e
 | .skip,Q,ds,e,h=>xpp h
 | .region id ops false,Q,ds,e,h=>by have:=xzj (ro:=ro) (id:=id) (l:=ops.toList) h.1 h.2;simpa using this
 | .region id ops true,Q,ds,e,h=>h
 | .seq a b,Q,ds,e,h=>xbj (xci (qbq a _ ds e h) λx ub e' hx=>by
   cases x with
   |normal=>exact qbq b Q ub e' hx
   |_=>exact hx)
 | .cond x a b,Q,ds,e,h=>by
  simp only[qvj]at h;split at h
  .rename_i c hx;exact xmr hx (λhc=>qbq a Q ds e (h.1 hc)) (λhc=>qbq b Q ds e (h.2 hc))
  .grind
 | .block id b,Q,ds,e,h=>xrw (qbq b _ ds e h)
 | .loop b,Q,ds,e,h=>h
 | .rangeFunc ..,Q,ds,e,h=>h
 | .exit id,Q,ds,e,h=>xoe h
 | .scope b,Q,ds,e,h=>h
 | .label _,Q,ds,e,h=>h
 | .goto _,Q,ds,e,h=>h
 | .ret,Q,ds,e,h=>xi7 h
 | .refuse _,Q,ds,e,h=>h
end
attribute [go_sem] qvj qu2 qz6 qtd qtq xhq
end Go.Abs
namespace Go.Abs
open Go.Proofs Go.Shelf Go.Sort Go.Lib
section
variable {P:Program} {E:Ent}
theorem xs2{w:World}{g:Nat}{cur:Array Value}{e:TypeId}{d:Array Int}(hg:w.heap[g]?=some (.cells cur e (0,0))):(putRow (Value.int .i64) w g 0 d).heap[g]?=some (.cells (putCells (Value.int .i64) 0 d cur) e (0,0)) /\
  ∀b,b≠g->(putRow (Value.int .i64) w g 0 d).heap[b]?=w.heap[b]?:=by
 constructor
 .simp only[putRow,mapBlock,qj6,if_true,hg,e8,onCells]
 .intro b hb;simp only[putRow,mapBlock,qj6,if_neg (Ne.symm hb)]
abbrev iR(x:Int):List AV:=[.val (.int .i64 x)]
theorem xoi{c:Ctx}{l:List Int}{us:List Value}(hl:us.length=l.length * 1)(h:∀(i j:Nat) (r:List AV) (x:AV),(l.map iR)[i]?=some r->r[j]?=some x->∃u,us[i * 1+j]?=some u/\DRel c.D x u):us=l.map (Value.int .i64):=by
 apply fh;intro k;rcases ei k l.length with hk|hk
 .obtain⟨u,hu,hd⟩:=h k 0 _ _ (by rw[di,cu hk];rfl) rfl;rw[Nat.mul_one,ea]at hu;cases hd;rw[hu,di,cu hk];rfl
 .grind
theorem xsp{D:Nat->Nat->Option Value}(l:List Int)(rest:List Value):∀(i j:Nat) (r:List AV) (x:AV),(l.map iR)[i]?=some r->r[j]?=some x->∃u,(l.map (Value.int .i64)++rest)[i * 1+j]?=some u/\DRel D x u:=λi j r x hr hx=>by
 rw[di]at hr;obtain⟨z,hz,rfl⟩:=db.1 hr;cases j with
 |succ j=>simp[iR]at hx
 |zero =>
  simp[iR]at hx;subst hx;have il:=(cm.1 hz).1;exact⟨_,by rw[Nat.mul_one,ea,co af,di,hz];rfl,.val _ rfl rfl⟩
theorem xul{w:World}{g cap:Nat}{cur:Array Value}{T:TypeId}{l:List Int}(hh:w.heap[g]?=some (.cells cur T (0,0)))(xy:cur.toList.take (l.length * 1)=l.map (Value.int .i64))(qua:cur.size=cap * 1)(ng:l.length<=cap):Holds (Value.int .i64) w g 0 l.toArray:=by
 intro j hj;have ny:j<l.length:=aa;have e1:cur[j]?=some (.int .i64 l[j]):=by
  have:(cur.toList.take (l.length * 1))[j]?=(l.map (Value.int .i64))[j]?:=by rw[xy]
  rw[dt,if_pos aa,fb,di,cu ny]at this;exact this
 refine⟨?_,by simp[World.frozen?,hh]⟩;rw[cell_of_row _ _ _ _ _ _ hh,cz,e1];simp[ny]
theorem jf4{ρ:Ren}(Ly:Lays.n189 P ρ)(hEn:qtr P (ρ.f 189)){h:g9}{i T:Nat}{l:List Int}(hi:h[i]?=some (.uarr T 1 (l.map iR))) :
  ACalls P (ρ.f 189) [.own i l.length] h λr h'=>r=.ret (.tuple [])/\h'=h.set i (.uarr T 1 ((l.mergeSort λx y=>decide (x<=y)).map iR)):=by
 refine⟨hEn,λc w vs hs ha=>?_⟩;have wz:vs = #[vs[0]!]:=by
  have:=ha.1;apply Array.ext
  .omega
  .grind
 obtain⟨v,rfl⟩:∃v,vs = #[v]:=⟨_,wz⟩
 have hr:=ha.2 0 _ v rfl rfl;obtain⟨hv,us,m8,oz,zk⟩:=qwx hs hi ac hr;have hus:us=l.map (Value.int .i64):=xoi (by rw[m8.1]) zk;have se:(l.mergeSort λx y=>decide (x<=y)).length=l.length:=List.length_mergeSort _;rcases m8.2 with⟨rfl,hn⟩|⟨g,cap,cur,rfl,_,hh,ng,lw,qua,xy⟩
 .have w9:l=[]:=fg hn;subst w9;refine(Any.slices_Sort_int_none Ly none 0 w).mono ?_;rintro e w' ⟨rfl,rfl⟩;refine⟨_,_,c,⟨rfl,rfl⟩,.tuple [] #[] rfl ac,?_,?_⟩
  .grind[qcf]
  .have:(([]:List Int).mergeSort λx y=>decide (x<=y))=[]:=ac;rw[this,qcf hi];exact .refl 0 hs
 .have hH:=xul hh af qua ng;have jm:l.length<=68719476736:=qhg;have hglt:g<w.heap.size:=(fv.1 hh).1;refine(Any.slices_Sort_int Ly g 0 cap l w hH hglt aa).mono ?_;rintro e w' ⟨rfl,n,os,rfl⟩;obtain⟨p1,p2⟩:=xs2 (w:=Sort.ahead w n) (d:=(l.mergeSort λx y=>decide (x<=y)).toArray) hh;have hsize:(putRow (Value.int .i64) (Sort.ahead w n) g 0 (l.mergeSort λx y=>decide (x<=y)).toArray).heap.size=w.heap.size:=ac;have uv:∀b,b<w.heap.size->(grow (putRow (Value.int .i64) (Sort.ahead w n) g 0 (l.mergeSort λx y=>decide (x<=y)).toArray) os).heap[b]?=(putRow (Value.int .i64) (Sort.ahead w n) g 0 (l.mergeSort λx y=>decide (x<=y)).toArray).heap[b]?:=λb hb=>by
   simp only[grow];rw[qj0 aa]
  have qsc:(putCells (Value.int .i64) 0 (l.mergeSort λx y=>decide (x<=y)).toArray cur).toList.take (l.length * 1)=(l.mergeSort λx y=>decide (x<=y)).map (Value.int .i64):=by
   apply fh;intro k;rw[dt];by_cases hk:k<l.length * 1
   .rw[if_pos hk,fb];have hkc:k<cur.size:=aa;have pj:k<(l.mergeSort λx y=>decide (x<=y)).length:=aa;simp only[putCells,Array.getElem?_mapIdx,fi hkc,e8,qjg,dq,cz,true_and,Nat.sub_zero,pj,if_true,di,cu pj];have hk3:(l.mergeSort λx y=>decide (x<=y))[k]?=some ((l.mergeSort λx y=>decide (x<=y))[k]'pj):=cu pj;simp[pj]
    first|done|(rw[hk3];rfl)
   .grind
  obtain⟨s1,k1⟩:=xd0 (E:=⟨0,c,h,w⟩) hs (.refl 0 hs) (w':=grow (putRow (Value.int .i64) (Sort.ahead w n) g 0 (l.mergeSort λx y=>decide (x<=y)).toArray) os) (rows':=(l.mergeSort λx y=>decide (x<=y)).map iR)
   (us:=(l.mergeSort λx y=>decide (x<=y)).map (Value.int .i64)) hi qh2 (by simp[se]) ac
   ⟨by simp[se],.inr ⟨g,cap,_,ac,dq _,(uv g hglt).trans p1,by simpa using ng,lw,by simp[putCells,qua],by simpa using qsc⟩⟩
   (by simpa using xsp (D:=c.D) (l.mergeSort λx y=>decide (x<=y)) []) rfl rfl rfl ac (λb hb il=>by rw[uv b il,p2 b hb];rfl)
  exact⟨_,_,c,⟨rfl,rfl⟩,.tuple [] #[] rfl ac,s1,k1⟩
end
section
variable {P:Program} {E:Ent}
theorem jb9{ρ:Ren}(Ly:Lays2.n20 P ρ)(hEn:qtr P (ρ.f 20)){h:g9}{i T:Nat}{l:List Int}(hi:h[i]?=some (.uarr T 1 (l.map iR))) :
  ACalls P (ρ.f 20) [.own i l.length] h λr h'=>r=.ret (.slice ((compact l).map iR))/\h'=h.set i (.arr T 1 ((compact l++List.replicate (l.length - (compact l).length) 0).map iR)):=by
 refine⟨hEn,λc w vs hs ha=>?_⟩;have wz:vs = #[vs[0]!]:=by
  have:=ha.1;apply Array.ext
  .omega
  .grind
 obtain⟨v,rfl⟩:∃v,vs = #[v]:=⟨_,wz⟩
 have hr:=ha.2 0 _ v rfl rfl;obtain⟨hv,us,m8,oz,zk⟩:=qwx hs hi ac hr;have hus:us=l.map (Value.int .i64):=xoi (by rw[m8.1]) zk;have ki:(compact l).length<=l.length:=compact_length_le l;obtain⟨Z,hZ⟩:∃Z,compact l++List.replicate (l.length - (compact l).length) 0=Z:=⟨_,rfl⟩
 have hZl:Z.length=l.length:=af
 -- what is left: the array written anew,then written no more
 have fin:∀(w':World) (cap g:Nat) (s1:HSim c (h.set i (.uarr T 1 (Z.map iR))) w') (k1:(⟨0,c,h,w⟩:Ent).ok c (h.set i (.uarr T 1 (Z.map iR))) w'),v=.slice (some ⟨g,0,none⟩) l.length cap->l.length<=cap ->
   ∃r h' c',(r=.ret (.slice ((compact l).map iR))/\h'=h.set i (.arr T 1 (Z.map iR)))/\EndR c' r (.returned (.slice (some ⟨g,0,none⟩) (compact l).length cap))/\HSim c' h' w'/\(⟨0,c,h,w⟩:Ent).ok c' h' w':=by
  intro w' cap g s1 k1 hvg quc;have ou:i<h.length:=(cm.1 hi).1;obtain⟨c',ij,s2,k2⟩:=xhn (E:=⟨0,c,h,w⟩) s1 k1 (i:=i) (du ou);rw[qi2]at s2 k2;obtain⟨v',us',g1,g2,g3,g4,g5,g6,g7,g8⟩:=s2.obj i _ (du ou);refine⟨_,_,c',⟨rfl,rfl⟩,?_,s2,k2⟩;have hvv:v'=.slice (some ⟨g,0,none⟩) l.length cap:=by
   have h9:=ij.sl _ _ _ hv;simp only[eo,hZl]at g1;rw[h9,hvg]at g1;exact(gy g1).symm
  subst hvv;have hD:∀j,j<(compact l).length->c'.D g j=some (.int .i64 ((compact l).getD j 0)):=λj hj=>by
   obtain⟨u,hu⟩:=g8 g j rfl af;have hZj:Z[j]?=some ((compact l).getD j 0):=af;obtain⟨u',wo,hd⟩:=g7 j 0 (iR ((compact l).getD j 0)) (.val (.int .i64 ((compact l).getD j 0))) af rfl;cases hd;rw[Nat.mul_one,ea]at wo;have hc:=g4.cells (g:=g) rfl j _ wo;rw[vg,cz]at hc;have:=s2.data g j u hu;rw[hu];rw[this]at hc;exact hc
  show Rel c' (.slice ((compact l).map iR)) (.slice (some ⟨g,0,none⟩) (compact l).length cap);have hdr:=DRel.slice (D:=c'.D) ((compact l).map iR) g 0 cap 1 (λi' j=>.int .i64 ((compact l).getD i' 0)) ac (by
    obtain⟨_,_,_,_,_,_,h3,_⟩:=hs.obj i _ hi;simp at h3|-;omega) az (λi' j r x jf hx=>by
    rw[di]at jf;obtain⟨z,hz,rfl⟩:=db.1 jf;cases j with
    |succ j=>simp[iR]at hx
    |zero =>
     rw[cz,Nat.mul_one,ea];exact hD i' (cm.1 hz).1) (λi' j r x jf hx=>by
    rw[di]at jf;obtain⟨z,hz,rfl⟩:=db.1 jf;cases j with
    |succ j=>simp[iR]at hx
    |zero =>
     simp[iR]at hx;subst hx;rw[qkg,hz];exact .val _ rfl rfl)
  simp only[eo]at hdr;exact .data hdr
 rcases m8.2 with⟨rfl,hn⟩|⟨g,cap,cur,rfl,_,hh,ng,lw,qua,xy⟩
 .have w9:l=[]:=fg hn;subst w9;refine(Any.slices_Compact_int_empty Ly none 0 w).mono ?_;rintro e w' ⟨rfl,rfl⟩;have hZ0:Z=[]:=fg aa;have hc0:compact ([]:List Int)=[]:=fg aa;obtain⟨c',ij,s2,k2⟩:=xhn (E:=⟨0,c,h,w'⟩) hs (.refl 0 hs) hi;exact⟨_,_,c',⟨rfl,by rw[hZ,hZ0]⟩,by rw[hc0];exact .data .nil,s2,k2⟩
 .have hH:=xul hh af qua ng;have jm:l.length<=68719476736:=qhg;refine(Any.slices_Compact_int Ly g 0 cap l w hH aa ng).mono ?_;rintro e w' ⟨rfl,q,rfl⟩;rw[hZ];obtain⟨p1,p2⟩:=xs2 (w:=Sort.ahead w q) (d:=Z.toArray) hh;have qsc:(putCells (Value.int .i64) 0 Z.toArray cur).toList.take (l.length * 1)=Z.map (Value.int .i64):=by
   apply fh;intro k;rw[dt];by_cases hk:k<l.length * 1
   .rw[if_pos hk,fb];have hkc:k<cur.size:=aa;have pj:k<Z.length:=aa;simp only[putCells,Array.getElem?_mapIdx,fi hkc,e8,qjg,dq,cz,true_and,Nat.sub_zero,pj,if_true,di,cu pj];simp[pj]
   .grind
  obtain⟨s1,k1⟩:=xd0 (E:=⟨0,c,h,w⟩) hs (.refl 0 hs) (w':=putRow (Value.int .i64) (Sort.ahead w q) g 0 Z.toArray) (rows':=Z.map iR) (us:=Z.map (Value.int .i64)) hi qh2 (by simp[hZl]) ac
   ⟨by simp[hZl],.inr ⟨g,cap,_,ac,dq _,p1,by simpa using ng,lw,by simp[putCells,qua],by simpa using qsc⟩⟩
   (by simpa using xsp (D:=c.D) Z []) rfl rfl rfl ac (λb hb il=>by rw[p2 b hb];rfl)
  exact fin _ cap g s1 k1 rfl ng
end
end Go.Abs
namespace Go.Abs
section
variable {P:Program} {E:Ent}
theorem xq4{c:Ctx}{e:Env}{a:Act}{w:World}(s:Sim E.N c e a w)(k:E.ok c e.h w){ops:Array Oper}{rest:List Oper}{o1:Oper}{Q:Exit->Act->World->Prop}{fid:FuncId}{args:Array Operand}{ts:Array TypeId}{d1:Nat}{x:AV}{h2:g9}
  (g1:o1.guard=none) (hd1:o1.dst=some d1) (hlt1:d1<E.N) (ho:o1.op=.call { callee:=.value (.func fid),args:=args,argTypes:=ts })
  (iz:me e true args.toList) (hc:ACalls P fid (args.toList.map e.getS) e.h λr h'=>r=.ret x/\h'=h2)
  (uy:∀c' a' w',Sim E.N c' (({ e with h:=h2 }:Env).put o1.dst x) a' w'->E.ok c' h2 w'->wpList P ops Q rest a' w') :
  wpList P ops Q (o1::rest) a w:=by
 have jr:=rp s iz;have qqg:RelL c (args.toList.map e.getS) (args.map a.eval):=RelL.map λx hx=>jr x hx;refine qcn (G:=true) qe4 (λ_=>?_) (λh=>by cases h);unfold Oper.wp;rw[qws (us:=#[]) (vs:=#[]) ho rfl hc.1];simp only[qjz,qkd];refine(hc.2 c w _ s.hs qqg).mono ?_;rintro en w' ⟨r,h',c',⟨rfl,rfl⟩,hE,jg,kb⟩;cases en with
 |returned u=>exact uy c' _ w' (s.put kb.ext jg (λj hj=>by rw[hd1]at hj;cases hj;exact hlt1) hE) (k.trans kb)
 |_=>simp[EndR]at hE
end
end Go.Abs
namespace Go.Abs
open Go.Proofs
theorem xz7{c:Ctx}{h:g9}{w:World}(s:HSim c h w){i:Nat}{xs:List AV}(hi:h[i]?=some (.cells xs))(hd:∀x,x∈xs->x.isData=true){v:Value}(hr:Rel c (.ptr i 0) v):Rel (qn5 w) (.eptr xs) v:=by
 obtain⟨b,vs,T,hb,hh,jx,hc⟩:=s.obj i _ hi;cases hr with
 |data h=>cases h
 |ptr _ _ b' iq =>
  rw[hb]at iq;cases iq;refine .eptr xs b 0 (λj=>(vs[j]?).getD undef) (λj x hx=>?_) (λj x hx=>?_)
  .have hj:j<vs.size:=by rw[jx];exact(cm.1 hx).1
   show w.cell? ⟨b,0+j,none⟩=_;rw[cell_of_row _ _ _ _ _ _ hh,cz,fi hj];rfl
  .have hj:j<vs.size:=by rw[jx];exact(cm.1 hx).1
   rw[fi hj];exact(xbn (hd x (cv hx)) (hc j x _ hx (fi hj)).1).mono s.data
theorem xxb{c c':Ctx}{f:Fn}{p p':AV}(hp:∀u,Rel c p u->Rel c' p' u){v:Value}(hr:Rel c (.fn f [] [p]) v):Rel c' (.fn f [] [p']) v:=by
 cases hr with
 |data h=>cases h
 |fn _ _ _ us vs po hl h' h =>
  refine .fn f [] [p'] us vs po hl (λj x v hx=>by simp at hx) (λj x v hx hv=>?_);cases j with
  |succ j=>simp at hx
  |zero =>
   simp at hx;subst hx;exact hp v (h 0 p v rfl hv)
theorem jf8{c:Ctx}{h:g9}{w:World}(s:HSim c h w){i n el sz:Nat}{rows:List (List AV)}(hi:h[i]?=some (.uarr el sz rows))(hn:rows.length=n){v:Value}(hr:Rel c (.own i n) v):Rel (qn5 w) (.slice rows) v:=by
 have h1:=xkb s hr;simpa[qos,hi,hn]using h1
theorem jf3(E:Ent)(e:Env)(i t sz:Nat)(hi:ji e.t i=.nils):Wk E e ⟨(i,.own e.h.length 0)::e.t,e.h++[.uarr t sz []]⟩:=λc a w s k=>by
 obtain⟨ij,s1,k1⟩:=xdp s.hs k t sz;refine⟨_,⟨s.defers,s.size,λj=>?_,s1⟩,k1⟩;simp only[ji];by_cases hj:i=j
 .subst hj;simp only[beq_self_eq_true,cond_true];have:=s.tmps i;rw[hi]at this;rw[qyh this];exact .own _ _ _ bj rfl
 .have:(i == j)=false:=qfs;simp only[this,cond_false];exact(s.tmps j).mono ij
end Go.Abs
namespace Go.Abs
section
variable {P:Program} {E:Ent}
theorem ja2{T el:TypeId}{sz:Nat}(hk:im P T=.slice el sz)(oq:im P el≠.other)(hsize:jd P el=sz)(hpos:0<sz)(w:World) :
  (Instr.buildSlice T 0 #[]).run P w=.ok (.slice (some ⟨w.heap.size,0,none⟩) 0 0) (w.alloc (.cells #[] el)):=by
 obtain⟨iT,dT,zT,_,pw,_,ua,_⟩:=li hk ac;obtain⟨rfl,ie,ln,un⟩:=vh ua;obtain⟨ie',de,ze,qi,_,yp,_,hts,_,p8,hz1⟩:=li (P:=P) (t:=el) rfl oq;rw[ln]at qi;cases qi;simp only[Instr.buildSlice,c8,ox pw,c9,xl ln,un];have h24:¬(0 * sz > 2 ^ 24):=ac;rw[if_neg h24,if_pos ac];simp only[c8,dm,c9];have hf:Instr.fill (λi=>some (i * sz,sz)) ((Array.range (0 * sz)).map ((#[]:Array Value)[· % (#[]:Array Value).size]!)) []=some #[]:=by
  simp[Instr.fill]
 simp only[hf,newRow,c8,qck,c9,dm]
theorem xu7{c:Ctx}{h:g9}{w:World}(s:HSim c h w)(k:E.ok c h w)(e:TypeId)(sz:Nat) :
  c.le (c.addSl h.length 0 (.slice (some ⟨w.heap.size,0,none⟩) 0 0))/\HSim (c.addSl h.length 0 (.slice (some ⟨w.heap.size,0,none⟩) 0 0)) (h++[.arr e sz []]) (w.alloc (.cells #[] e)) /\
   E.ok (c.addSl h.length 0 (.slice (some ⟨w.heap.size,0,none⟩) 0 0)) (h++[.arr e sz []]) (w.alloc (.cells #[] e)):=by
 obtain⟨v0,hv0⟩:∃v0,v0=Value.slice (some ⟨w.heap.size,0,none⟩) 0 0:=⟨_,rfl⟩
 rw[<-hv0];have ij:c.le (c.addSl h.length 0 v0):=Ctx.addSl_le ((s.dom _ (cn _)).2 0);have na:∀i,i<h.length->∀m,(c.addSl h.length 0 v0).sl i m=c.sl i m:=λi hi m=>by grind[Ctx.addSl]
 have il:∀{i:Nat} {o:AObj},h[i]?=some o->i<h.length:=λhi=>(cm.1 hi).1;have ue:je (c.addSl h.length 0 v0) h.length (.arr e sz [])=some w.heap.size:=by simp[je,Ctx.addSl,hv0,Value.ownBlock]
 have uv:∀b,b<w.heap.size->(w.alloc (.cells #[] e)).heap[b]?=w.heap[b]?:=λb hb=>by first|exact heap_alloc_old w _ b hb|exact heap_alloc_old w _ hb
 refine⟨ij,⟨λb j v hD=>?_,λi hi=>?_,λi o hi=>?_,λi j o o' b hi hj hb iq=>?_,λi o b j v hi hb hD=>?_⟩,⟨k.edom,k.ext.trans ij,k.blk0,qe1,k.os,k.tape,k.output,dv k.size (qdy w _),λb hb kf=>?_,λi o b hi hb=>?_,k.dold⟩⟩
 .have mb:=s.data b j v hD;have hb:b<w.heap.size:=World.block_lt_of_cell? w ⟨b,j,none⟩ mb;rw[World.cell?_of_block (w:=w) (uv b hb)];exact mb
 .simp only[c7,dy,ed]at hi;have:=s.dom i aa;refine⟨this.1,λm=>?_⟩;simp only[Ctx.addSl];rw[if_neg aa];exact this.2 m
 .rcases oy hi with h1|⟨rfl,rfl⟩
  .exact(s.obj i o h1).keep ij (na i (il h1)) λb hb=>uv b ((s.obj i o h1).lt hb)
  .refine⟨v0,[],bj,qil,λm hm=>?_,by rw[hv0];exact World.ownsRow_made w #[] 0 (dq _) (dq _) ac,ac,ac,ac,λb j hb hj=>by simp at hj⟩;simp only[Ctx.addSl];rw[if_neg aa];exact(s.dom _ (cn _)).2 m
 .rcases oy hi with h1|⟨rfl,rfl⟩<;>rcases oy hj with h2|⟨rfl,rfl⟩
  .rw[(s.obj i o h1).blk ij]at hb;rw[(s.obj j o' h2).blk ij]at iq;exact s.apart i j o o' b h1 h2 hb iq
  .rw[ue]at iq;rw[(s.obj i o h1).blk ij]at hb;cases iq;have:=(s.obj i o h1).lt hb;omega
  .rw[ue]at hb;rw[(s.obj j o' h2).blk ij]at iq;cases hb;have:=(s.obj j o' h2).lt iq;omega
  .rfl
 .have o7:c.D b j=some v:=hD;rcases oy hi with h1|⟨rfl,rfl⟩
  .rw[(s.obj i o h1).blk ij]at hb;exact s.sep i o b j v h1 hb o7
  .rw[ue]at hb;cases hb;rw[s.noD (cn _)]at o7;cases o7
 .rw[uv b (qi4 hb k.size)];exact k.frame b hb kf
 .rcases oy hi with h1|⟨rfl,rfl⟩
  .rw[(s.obj i o h1).blk ij]at hb;exact k.newobj i o b h1 hb
  .rw[ue]at hb;cases hb;exact .inr k.size
theorem jdp{c:Ctx}{e:Env}{a:Act}{w:World}(s:Sim E.N c e a w)(k:E.ok c e.h w){ops:Array Oper}{rest:List Oper}{o1:Oper}{Q:Exit->Act->World->Prop}{T el:TypeId}{sz d1:Nat}
  (g1:o1.guard=none) (hd1:o1.dst=some d1) (hlt1:d1<E.N) (hop1:o1.op=.buildSlice T 0 #[])
  (hT:im P T=.slice el sz) (hel:im P el≠.other) (jx:jd P el=sz) (hpos:0<sz)
  (uy:∀c' a' w',Sim E.N c' (({ e with h:=e.h++[.arr el sz []] }:Env).put o1.dst (.own e.h.length 0)) a' w'->E.ok c' (e.h++[.arr el sz []]) w'->wpList P ops Q rest a' w') :
  wpList P ops Q (o1::rest) a w:=by
 have xbo:=ja2 (P:=P) hT hel jx hpos w;obtain⟨ij,s1,k1⟩:=xu7 (E:=E) s.hs k el sz;refine qcn (G:=true) qe4 (λ_=>?_) (λh=>by cases h);refine vj (w':=w.alloc (.cells #[] el)) (v:=.slice (some ⟨w.heap.size,0,none⟩) 0 0) (by simp only[execOp,hop1,qji,fc,c8,xbo,c9,dm]) ?_;refine uy _ _ _ ?_ k1;exact s.put ij s1 (λj hj=>by rw[hd1]at hj;cases hj;exact hlt1) (.own _ _ _ bj rfl)
theorem je6{c:Ctx}{e:Env}{a:Act}{w:World}(s:Sim E.N c e a w){ops:Array Oper}{rest:List Oper}{o1:Oper}{Q:Exit->Act->World->Prop}{T T' el:TypeId}{sz:Nat}{x:Operand}{d1:Nat}{rows:List (List AV)}
  (g1:o1.guard=none) (hd1:o1.dst=some d1) (hlt1:d1<E.N) (hop1:o1.op=.binOp .eql T x (.const (.slice none 0 0)) T')
  (hT:im P T=.slice el sz) (hx:me e true [x]) (hxv:e.getS x=.slice rows)
  (uy:∀(b:Bool) a',(b=true->rows=[])->Sim E.N c (e.put o1.dst (.val (.bool b))) a' w->wpList P ops Q rest a' w) :
  wpList P ops Q (o1::rest) a w:=by
 obtain⟨iT,dT,zT,_,pw,_,ua,_⟩:=li hT ac;obtain⟨rfl,ie,ln,un⟩:=vh ua;have mq:=rp s hx x ac;rw[hxv]at mq;have hd:=Rel.slice_inv mq;obtain⟨A,n,cp,hv,hA⟩:∃(A:Option Addr) (n cp:Nat),a.eval x=.slice A n cp/\(A.isNone=true->rows=[]):=by
  generalize a.eval x=v at hd;cases hd with
  |nil=>exact⟨none,0,0,rfl,λ_=>rfl⟩
  |slice rows b off cap ky g h1 h2 h3 h4 h5=>exact⟨_,_,_,rfl,λh=>by simp at h⟩
  |empty a=>exact⟨_,_,_,rfl,λ_=>rfl⟩
 refine qcn (G:=true) qe4 (λ_=>?_) (λh=>by cases h);refine vj (w':=w) (v:=.bool A.isNone) (by
  have h1:=Lib.run_eql_slice_nil (P:=P) w T el A n cp 0 0 pw;have hc:a.eval (.const (.slice none 0 0))=.slice none 0 0:=rfl;simp only[execOp,hop1,hv,hc,eqGuard,c8,dm,c9];simp only[h1,c9,Bool.not_true,qje,if_false,dm]) ?_
 exact uy A.isNone _ hA (s.put (.refl c) s.hs (λj hj=>by rw[hd1]at hj;cases hj;exact hlt1) (.val _))
end
section
variable {P:Program} {E:Ent}
def qvd(P:Program)(E:Ent):Code->(AExit->List Deferred->Env->Prop)->List Deferred->Env->Prop
 | .skip,Q,ds,e=>Q .normal ds e
 | .region _ ops false,Q,ds,e=>(ops.toList.all λo=>!qtd o.op)=true/\qtq P E.N (λx e=>Q x ds e) [] ops.toList e
 | .seq a b,Q,ds,e=>qvd P E a (qu2 (qvd P E b Q) Q) ds e
 | .cond x a b,Q,ds,e=>match e.get x with
  | .val (.bool c)=>Cnd c e (qvd P E a Q ds) (qvd P E b Q ds) ⟨⟩ ⟨⟩
  |_=>False
 | .block id b,Q,ds,e=>qvd P E b (qz6 id Q) ds e
 | .exit id,Q,ds,e=>Q (.exit id) ds e
 | .ret,Q,ds,e=>Q .ret ds e
 |c,Q,ds,e=>xsi P E none c Q ds e ⟨⟩
theorem qct:∀(c:Code) (Q:AExit->List Deferred->Env->Prop) (ds:List Deferred) (e:Env),qvd P E c Q ds e->qf P E none c Q ds e
 | .skip,Q,ds,e,h=>xpp h
 | .region id ops false,Q,ds,e,h=>by have:=xo3 (id:=id) (l:=ops.toList) h.1 h.2;simpa using this
 | .region id ops true,Q,ds,e,h=>h
 | .seq a b,Q,ds,e,h=>xbj (xci (qct a _ ds e h) λx ub e' hx=>by
   cases x with
   |normal=>exact qct b Q ub e' hx
   |_=>exact hx)
 | .cond x a b,Q,ds,e,h=>by
  simp only[qvd]at h;split at h
  .rename_i c hx;exact xmr hx (λhc=>qct a Q ds e (h.1 hc)) (λhc=>qct b Q ds e (h.2 hc))
  .grind
 | .block id b,Q,ds,e,h=>xrw (qct b _ ds e h)
 | .loop b,Q,ds,e,h=>h
 | .rangeFunc ..,Q,ds,e,h=>h
 | .exit id,Q,ds,e,h=>xoe h
 | .scope b,Q,ds,e,h=>h
 | .label _,Q,ds,e,h=>h
 | .goto _,Q,ds,e,h=>h
 | .ret,Q,ds,e,h=>xi7 h
 | .refuse _,Q,ds,e,h=>h
end
attribute [go_sem] qvd
section
variable {P:Program} {E:Ent}
end
theorem jj4(E:Ent)(e:Env){p:Nat}{xs:List AV}(hp:e.h[p]?=some (.cells xs)):Wk E e ⟨e.t,e.h.set p (.cells (ko e.h xs))⟩:=λc a w s k=>by
 obtain⟨s2,k2⟩:=xcu s.hs k (p:=p) (xs:=xs) (xs':=ko e.h xs) hp (by rw[qdi,eo]) (λi x x' v hx nw hr=>by
  rw[qdi,di,hx]at nw;cases nw;exact qdw s.hs hr)
 exact⟨c,⟨s.defers,s.size,s.tmps,s2⟩,k2⟩
end Go.Abs
namespace Go.Abs
open Go.Proofs
theorem jh8(E:Ent)(e:Env)(i t sz:Nat)(hi:ji e.t i=.nils):Wk E e ⟨(i,.own e.h.length 0)::e.t,e.h++[.oarr t sz []]⟩:=λc a w s k=>by
 obtain⟨ij,s1,k1⟩:=xm7 s.hs k t sz;refine⟨_,⟨s.defers,s.size,λj=>?_,s1⟩,k1⟩;simp only[ji];by_cases hj:i=j
 .subst hj;simp only[beq_self_eq_true,cond_true];have:=s.tmps i;rw[hi]at this;rw[qyh this];exact .own _ _ _ bj rfl
 .have:(i == j)=false:=qfs;simp only[this,cond_false];exact(s.tmps j).mono ij
end Go.Abs
namespace Go.Abs
theorem qzn(E:Ent)(e:Env){p j:Nat}{xs:List AV}{x:AV}(hp:e.h[p]?=some (.cells xs))(hj:xs[j]?=some x):Wk E e ⟨e.t,e.h.set p (.cells (xs.set j (x.norm e.h)))⟩:=λc a w s k=>by
 obtain⟨s2,k2⟩:=xcu s.hs k (p:=p) (xs:=xs) (xs':=xs.set j (x.norm e.h)) hp ac (λi y y' v hy hy' hr=>by
  rcases m7 hy' with⟨rfl,rfl⟩|⟨it,h1⟩
  .rw[hj]at hy;cases hy;exact qdw s.hs hr
  .rw[h1]at hy;cases hy;exact hr)
 exact⟨c,⟨s.defers,s.size,s.tmps,s2⟩,k2⟩
theorem jcw{P:Program}{f:FuncId}{args:List AV}{h:g9}{R R':AEnd->g9->Prop}(k:ACalls P f args h R)(hw:∀r h1,R r h1->∃h2,R' r h2/\∀E,Wk E ⟨[],h1⟩ ⟨[],h2⟩):ACalls P f args h R':=by
 refine⟨k.1,λc w vs hs ha=>?_⟩;refine(k.2 c w vs hs ha).mono ?_;rintro e w' ⟨r,h1,c',hR,hE,jg,ok'⟩;obtain⟨h2,hR',oh⟩:=hw r h1 hR;obtain⟨c1,s1,o1⟩:=oh ⟨0,c',h1,w'⟩ c' ⟨#[],[]⟩ w' ⟨rfl,rfl,λ_=>.top _,jg⟩ (.refl 0 jg);exact⟨_,_,c1,hR',hE.mono o1.ext,s1.hs,ok'.trans o1⟩
theorem xx1{P:Program}{o:Oper}{a:Act}{next nx:Act->World->Prop}{Q:Exit->Act->World->Prop}{r:Result Next}(h:o.upon P a next (λex a w=>ex=.normal/\nx a w) r)
  (hn:∀a w,next a w->nx a w):o.upon P a nx Q r:=by
 unfold Oper.upon at h|-;split at h
 .grind
 .grind
 .grind
 .refine Calls.mono h λe w' he=>?_;cases e with
  |returned v=>exact hn _ _ he
  |panicked c=>exact Exit.noConfusion he.1
  |outgrown=>obtain⟨_,_,h,_⟩:=he;exact Exit.noConfusion h
 .exact Rows.mono h λ_ _ he=>hn _ _ he
 .grind
 .omega
structure MakeI(P:Program)(N:Nat)(o:Oper)(e:Env)(K:Env->Prop)(d:Tmp)(T el:TypeId)(x:Operand)(n sz:Nat)(zr:List AV):Prop where
 g1:o.guard=none
 hd1:o.dst=some d
 hlt1:d<N
 hop1:o.op=.makeSlice T x x
 hT:im P T=.slice el sz
 hel:im P el≠.other
 hsize:jd P el=sz
 hpos:0<sz
 hbytes:jq P el<=2048
 hzt:∀x,x∈jh P el->x≠.top
 hzr:(jh P el).map qnx=zr
 hx:me e true [x]
 hxv:e.getS x=.val (.int .i64 n)
 hn:n<=68719476736
 k:K (({ e with h:=e.h++[.uarr el sz (List.replicate n zr)] }:Env).put o.dst (.own e.h.length n))
def jcn(P:Program)(N:Nat)(Q:AExit->Env->Prop)(o:Oper)(e:Env)(K:Env->Prop):Prop :=
 s7 P N Q [] o e K\/∃d T el x n sz zr,MakeI P N o e K d T el x n sz zr
section
variable {P:Program} {E:Ent}
theorem jd8{ops:Array Oper}{o:Oper}{e:Env}{K:Env->Prop}{d:Tmp}{T el:TypeId}{x:Operand}{n sz:Nat}{zr:List AV}(h:MakeI P E.N o e K d T el x n sz zr){c:Ctx}{a:Act}{w:World}
  (s:Sim E.N c e a w) (k:E.ok c e.h w) {nx:Act->World->Prop} {Qc:Exit->Act->World->Prop} (hnx:∀e' c' a' w',K e'->Sim E.N c' e' a' w'->E.ok c' e'.h w'->nx a' w') :
  if Region.wanted o (yielded ops a.tmps)then o.wp P a w nx Qc\/(o.asks P a w/\LetsOut Qc)else nx (a.put o.dst undef) w:=by
 have h1:=xxu (P:=P) (E:=E) (ops:=ops) (rest:=[]) (Q:=λex a w=>ex=.normal/\nx a w) s k h.g1 h.hd1 h.hlt1 h.hop1 h.hT h.hel h.hsize h.hpos h.hbytes h.hzt h.hzr h.hx h.hxv h.hn (λc' a' w' s' k'=>by
  show Exit.normal=Exit.normal/\_;refine⟨rfl,hnx _ c' a' w' h.k s' ?_⟩;rw[h.hd1];exact k')
 have hw:Region.wanted o (yielded ops a.tmps)=true:=by simp[Region.wanted,h.g1]
 unfold wpList at h1;rw[if_pos hw]at h1|-;rcases h1 with h1|⟨_,_,_,h1,_⟩
 .exact .inl (xx1 h1 λ_ _ hh=>hh.2)
 .grind
theorem jkb{id:Nat}(m:Nat){l:List Oper}{Q:AExit->Env->Prop}{e:Env}(I:(Nat->Bool)->Env->Prop)(hm:P.follows .mixedOrders=true)(hB:(decide (m<=l.length)&&qro m l&&(l.take m).all (λo=>o.guard.isNone))=true)
  (h0:I (λ_=>false) e)
  (qmz:∀(X:Nat->Bool) (e':Env) (i:Nat) (o:Oper),I X e'->(l.take m)[i]?=some o->X i=false->(∀d,d∈o.after->Region.binds .any d=true->X d.on=true)->jcn P E.N Q o e' (λe2=>I (λj=>if j=i then true else X j) e2))
  (hend:∀(X:Nat->Bool) (e':Env),(∀j,j<m->X j=true)->I X e'->qks P E.N Q ((l.take m).map (·.dst)) (l.drop m) e'):AWp P E (.region id l.toArray true) Q e:=λc a w s k=>by
 simp only[cw,decide_eq_true_eq,dr]at hB;obtain⟨⟨se,hT⟩,hg⟩:=hB;have hgn:∀(i:Nat) (o:Oper),(l.take m)[i]?=some o->o.guard=none:=λi o ho=>by simpa using hg o (cv ho)
 refine wp_region_any hm ?_;have jg:HSim c e.h { w with drawn:=w.drawn+1 }:=s.hs.ext (λ_ _=>rfl) (.refl c) (λ_ _=>rfl) (λ_ _ _ h=>.inl h) s.hs.dom;have kb:E.ok c e.h { w with drawn:=w.drawn+1 }:=k.ext' s.hs (λ_ _=>rfl) (.refl c) (λ_=>rfl) rfl rfl rfl (cn _) (λ_ _ _ h=>.inl h);have u4:(λ_=>false)=λj=>(Array.replicate l.toArray.size false).getD j false:=by
  funext j;simp[dz,qj1];split<;>rfl
 refine xqy se (xbx hT) (λi o j want hi hgd=>by rw[hgn i o hi]at hgd;cases hgd) (λX a' w'=>∃c' e',I X e'/\Sim E.N c' e' a' w'/\E.ok c' e'.h w') (λX a' w' i o ki inv hi pn rk=>?_) (λX a' w' iz inv=>?_) _ _ ac (λj _=>(congrFun u4 j).symm) ac ?_ a _ ?_
 .obtain⟨c',e',hI,s',k'⟩:=inv;unfold wpOp;have ke:(l.take m).toArray[i]?=some o:=af;rw[ke];rcases qmz X e' i o hI hi pn rk with h|⟨d,T,el,x,n,sz,zr,h⟩
  .exact qzs h (λG hG=>by
    rw[hgn i o hi]at hG;simp only[gB,eb]at hG;subst hG;simp[Region.wanted,hgn i o hi]) s' k' λe2 c2 a2 w2 h2 s2 k2=>⟨c2,e2,h2,s2,k2⟩
  .exact jd8 h s' k' λe2 c2 a2 w2 h2 s2 k2=>⟨c2,e2,h2,s2,k2⟩
 .obtain⟨c',e',hI,s',k'⟩:=inv;exact qcq (l.drop m) (l.take m) _ ac (hend X e' iz hI) c' a' w' s' k'
 .intro j o hj;rw[<-u4]at hj;cases hj
 .rw[<-u4];exact⟨c,e,h0,⟨s.defers,s.size,s.tmps,jg⟩,kb⟩
end
end Go.Abs
namespace Go.Abs
open Go.Proofs
section
variable {P:Program} {E:Ent}
theorem xut{c:Ctx}{h:g9}{w:World}(s:HSim c h w)(k:E.ok c h w){i e sz m g n cap:Nat}{rows:List (List AV)}(hi:h[i]?=some (.uarr e sz rows))(hn:rows.length=n)(hv:c.sl i n=some (.slice (some ⟨g,0,none⟩) n cap))(hm:m<=n) :
  c.le (c.addSl h.length m (.slice (some ⟨g,0,none⟩) m cap))/\HSim (c.addSl h.length m (.slice (some ⟨g,0,none⟩) m cap)) (h.set i .none++[.uarr e sz (rows.take m)]) w/\E.ok (c.addSl h.length m (.slice (some ⟨g,0,none⟩) m cap)) (h.set i .none++[.uarr e sz (rows.take m)]) w:=by
 subst hn;obtain⟨v0,hv0⟩:∃v0,v0=Value.slice (some ⟨g,0,none⟩) m cap:=⟨_,rfl⟩
 rw[<-hv0];have ij:c.le (c.addSl h.length m v0):=Ctx.addSl_le ((s.dom _ (cn _)).2 m);have na:∀j,j<h.length->∀q,(c.addSl h.length m v0).sl j q=c.sl j q:=λj hj q=>by grind[Ctx.addSl]
 have il:∀{j:Nat} {o:AObj},h[j]?=some o->j<h.length:=λhj=>(cm.1 hj).1;obtain⟨v1,vs,h1,xx,vw,h2,h3,h4,h5⟩:=s.obj i _ hi;rw[hv]at h1;cases h1;have oz:(rows.take m).length=m:=af;have p9:je c i (.uarr e sz rows)=some g:=qfm;have ue:je (c.addSl h.length m v0) h.length (.uarr e sz (rows.take m))=some g:=by simp[je,Ctx.addSl,hv0,oz,Value.ownBlock]
 have m8:w.ownsRow 0 e sz v0 m (vs.take (m * sz)):=by
  have hmm:m * sz<=rows.length * sz:=dx _ hm;refine⟨by rw[ey,h2.1];omega,?_⟩;rcases h2.2 with⟨hx,_⟩|⟨g',cap',cur,hx,_,hh,ng,lw,md,ht⟩
  .cases hx
  .grind
 -- what an object of the new heap is
 have xaz:∀j o,(h.set i .none++[.uarr e sz (rows.take m)])[j]?=some o->(j=h.length/\o=.uarr e sz (rows.take m))\/(j=i/\o=.none)\/(j≠i/\h[j]?=some o):=λj o hj=>by grind
 have hbk:∀j o,h[j]?=some o->je (c.addSl h.length m v0) j o=je c j o:=λj o hj=>(s.obj j o hj).blk ij;refine⟨ij,⟨s.data,λj hj=>?_,λj o hj=>?_,λj j' o o' b hj ny hb iq=>?_,λj o b q v hj hb hD=>?_⟩,⟨k.edom,k.ext.trans ij,k.blk0,qe1,k.os,k.tape,k.output,k.size,k.frame,λj o b hj hb=>?_,k.dold⟩⟩
 .simp only[c7,gz,dy,ed]at hj;have:=s.dom j aa;refine⟨this.1,λq=>?_⟩;simp only[Ctx.addSl];rw[if_neg aa];exact this.2 q
 .rcases xaz j o hj with⟨rfl,rfl⟩|⟨rfl,rfl⟩|⟨it,h6⟩
  .refine⟨v0,vs.take (m * sz),by simp[Ctx.addSl,oz],qil,λq hq=>?_,by rw[oz];exact m8,by rw[oz];omega,λr hr=>h4 r (qi7 hr),λi' q r x hr hx=>?_⟩
   .rw[oz]at hq;simp only[Ctx.addSl];rw[if_neg aa];exact(s.dom _ (cn _)).2 q
   .rw[dt]at hr;split at hr
    .rename_i him;obtain⟨u,hu,hd⟩:=h5 i' q r x hr hx;refine⟨u,?_,hd⟩;have hrs:=h4 r (cv hr);have hq:q<sz:=af;have qvn:i' * sz+q<m * sz:=by
      have:(i'+1) * sz<=m * sz:=dx _ him;rw[ee]at this;omega
     rw[dt,if_pos qvn];exact hu
    .cases hr
  .exact trivial
  .exact(s.obj j o h6).keep ij (na j (il h6)) λb _=>rfl
 .have key:∀j o,(j≠i/\h[j]?=some o)->je c j o=some g->False:=λj o hh hg=>hh.1 (s.apart j i o _ g hh.2 hi hg p9);rcases xaz j o hj with⟨rfl,rfl⟩|⟨rfl,rfl⟩|h6
  .grind[je]
  .grind[je]
  .rw[hbk _ _ h6.2]at hb;rcases xaz j' o' ny with⟨rfl,rfl⟩|⟨rfl,rfl⟩|h7
   .grind
   .grind[je]
   .rw[hbk _ _ h7.2]at iq;exact s.apart j j' o o' b h6.2 h7.2 hb iq
 .rcases xaz j o hj with⟨rfl,rfl⟩|⟨rfl,rfl⟩|h6
  .rw[ue]at hb;cases hb;have h9:(AObj.uarr e sz rows).shares q:=s.sep i _ g q v hi p9 hD;exact h9
  .grind[je]
  .rw[hbk _ _ h6.2]at hb;exact s.sep j o b q v h6.2 hb hD
 .rcases xaz j o hj with⟨rfl,rfl⟩|⟨rfl,rfl⟩|h6
  .rw[ue]at hb;cases hb;exact k.newobj i _ g hi p9
  .grind[je]
  .rw[hbk _ _ h6.2]at hb;exact k.newobj j o b h6.2 hb
theorem jf1{f:FuncId}{e sz i j:Nat}{rows:List (List AV)}{h:g9}(hent:qtr P f)(hi:h[i]?=some (.uarr e sz rows))(hj:j<rows.length)
  (jk:∀(w:World) (g cap:Nat) (cur:Array Value),w.heap[g]?=some (.cells cur e (0,0))->rows.length<=cap->cap<=maxLen->cur.size=cap * sz->(∀v∈cur.toList.take (rows.length * sz),v.oneCell'=true) ->
   Calls P f #[.slice (some ⟨g,0,none⟩) rows.length cap,.int .i64 j,.int .i64 (j+1:Nat)] w λen w'=>en=.returned (.slice (some ⟨g,0,none⟩) (rows.length - 1) cap)/\w'.os=w.os/\w'.tape=w.tape/\w'.output=w.output/\w.heap.size<=w'.heap.size/\(∀b,b≠g->b<w.heap.size->w'.heap[b]?=w.heap[b]?) /\
    ∃qp8,w'.heap[g]?=some (.cells qp8 e (0,0))/\qp8.size=cap * sz/\qp8.toList.take ((rows.length - 1) * sz)=cur.toList.take (j * sz)++(cur.toList.drop ((j+1) * sz)).take ((rows.length - 1 - j) * sz)) :
  ACalls P f [.own i rows.length,.val (.int .i64 j),.val (.int .i64 (j+1:Nat))] h λr h'=>r=.ret (.own h.length (rows.length - 1))/\h'=h.set i .none++[.uarr e sz (rows.eraseIdx j)]:=by
 refine⟨hent,λc w vs s ha=>?_⟩;obtain⟨jx,har⟩:=ha
 match vs,jx with
 |⟨[v,a,b]⟩,_ =>
 have hv:=har 0 _ v rfl rfl;have h1:=(har 1 _ a rfl rfl).val_inv;have h2:=(har 2 _ b rfl rfl).val_inv;subst h1;subst h2;obtain⟨na,us,m8,oz,ki⟩:=qwx s hi rfl hv;rcases m8.2 with⟨_,h0⟩|⟨g,cap,cur,rfl,hg0,hh,ng,lw,md,xy⟩
 .omega
 have nj:∀v∈cur.toList.take (rows.length * sz),v.oneCell'=true:=λv hv=>by
  rw[xy]at hv;obtain⟨q,hq⟩:=da hv;have hql:q<rows.length * sz:=af;have hpos:0<sz:=af;have hr:q / sz<rows.length:=by simp_all[Nat.div_lt_iff_lt_mul]
  have my:rows[q / sz]?=some rows[q / sz]:=cu hr;have hx:q % sz<(rows[q / sz]).length:=qf8;obtain⟨u,hu,hd⟩:=ki (q / sz) (q % sz) _ _ my (cu hx);rw[Nat.mul_comm,Nat.div_add_mod]at hu;rw[hq]at hu;cases hu;exact hd.one
 refine(jk w g cap cur hh ng lw md nj).mono ?_;rintro en w' ⟨rfl,zz,ht,y9,hsize,ov,qp8,za,hcs',hcut⟩;obtain⟨ij,s1,k1⟩:=xut (m:=rows.length - 1) s (Ent.ok.refl 0 s) hi rfl na aa;obtain⟨c1,hc1⟩:∃c1,c.addSl h.length (rows.length - 1) (.slice (some ⟨g,0,none⟩) (rows.length - 1) cap)=c1:=⟨_,rfl⟩
 have hv1:c1.sl h.length (rows.length - 1)=some (.slice (some ⟨g,0,none⟩) (rows.length - 1) cap):=by grind[Ctx.addSl]
 rw[hc1]at ij s1 k1;have htl:(rows.take (rows.length - 1)).length=rows.length - 1:=ac;have hel:(rows.eraseIdx j).length=rows.length - 1:=af;have hcl2:cur.toList.length=cap * sz:=aa;have e1:(j+1) * sz=j * sz+sz:=af;have e2:(rows.length - 1) * sz=j * sz+(rows.length - 1 - j) * sz:=qg1;have e3:rows.length * sz=(rows.length - 1) * sz+sz:=by
  have:rows.length=rows.length - 1+1:=aa
  conv=>lhs;rw[this]
  rw[ee,fo]
 have e4:rows.length * sz<=cap * sz:=dx _ ng;have vp:(cur.toList.take (j * sz)++(cur.toList.drop ((j+1) * sz)).take ((rows.length - 1 - j) * sz)).length=(rows.length - 1) * sz:=af;have uv:∀q u,us[q]?=some u->cur.toList[q]?=some u:=λq u hq=>by
  rw[<-xy,dt]at hq;split at hq
  .exact hq
  .cases hq
 obtain⟨s2,k2⟩:=xd0 (w':=w') (i:=h.length) (e:=e) (sz:=sz) (g:=g) (cap:=cap) (rows:=rows.take (rows.length - 1)) (rows':=rows.eraseIdx j) (us:=cur.toList.take (j * sz)++(cur.toList.drop ((j+1) * sz)).take ((rows.length - 1 - j) * sz)) s1 k1
  ac af aa (λr hr=>oz r (List.mem_of_mem_eraseIdx hr))
  (by
   rw[htl];exact⟨vp,.inr ⟨g,cap,qp8,rfl,dq _,za,aa,lw,hcs',hcut⟩⟩)
  (λi' q r x hr hx=>by
   have ou:i'<rows.length - 1:=af;rw[List.getElem?_eraseIdx]at hr;have hjl:(cur.toList.take (j * sz)).length=j * sz:=af;split at hr
   .rename_i hij;obtain⟨u,hu,hd⟩:=ki i' q r x hr hx;have hq:q<sz:=af;have qvn:i' * sz+q<j * sz:=by
     have:(i'+1) * sz<=j * sz:=dx _ hij;rw[ee]at this;omega
    refine⟨u,?_,hd.mono ij.D⟩;rw[co aa,dt,if_pos qvn];exact uv _ _ hu
   .rename_i hij;obtain⟨u,hu,hd⟩:=ki (i'+1) q r x hr hx;have hq:q<sz:=af;have h5:j * sz<=i' * sz:=dx _ aa;have h6:(i'+1) * sz<=(rows.length - 1) * sz:=dx _ aa;rw[ee,fo]at h6 hu;refine⟨u,?_,hd.mono ij.D⟩;rw[cx aa,hjl,dt,if_pos aa,ew];rw[show(j+1) * sz+(i' * sz+q - j * sz)=i' * sz+sz+q by omega];exact uv _ _ hu) zz ht y9 hsize ov
 have heq:(h.set i AObj.none++[AObj.uarr e sz (rows.take (rows.length - 1))]).set h.length (AObj.uarr e sz (rows.eraseIdx j))=h.set i AObj.none++[AObj.uarr e sz (rows.eraseIdx j)]:=ac;rw[heq]at s2 k2;exact⟨_,_,c1,⟨rfl,rfl⟩,.own _ _ _ hv1 rfl,s2,k2⟩
end
end Go.Abs
namespace Go.Abs
section
variable {P:Program} {E:Ent}
end
end Go.Abs
