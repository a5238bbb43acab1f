/- Part 44 of a proof: W41, W42 -/
import Derived.Test.YtilhejdbiionhaaGreatDoorR20
import Derived.Test.YtilhejdbiionhaaGreatDoorR42
set_option linter.all false

set_option maxRecDepth 4000
set_option maxHeartbeats 2000000
namespace Go.Proofs.YtilhejdbiionhaaGreatDoor
open Go Go.Abs Go.Cw
theorem uses_known{op:Int}(h:1≤op∧op≤8):qa8 op=(usesR op,true):=by
 have:op=1∨op=2∨op=3∨op=4∨op=5∨op=6∨op=7∨op=8:=by omega
 rcases this with rfl|rfl|rfl|rfl|rfl|rfl|rfl|rfl<;>rfl
theorem uses_unknown{op:Int}(h:op<1∨8<op):(qa8 op).2=false:=by
 unfold qa8
 repeat' split
 all_goals first|rfl|(exfalso;omega)
theorem stmtErr_R{s:St}{d:Int}(hu:qa8 s.op=(usesR s.op,true))(hs:qb9 s (usesR s.op)=true):qbo s d=if (usesR s.op).name=true∧nameOk s.name=false then 7
  else if (usesR s.op).a=true∧chkE s.a 1≠0 then chkE s.a 1 else if (usesR s.op).b=true∧chkE s.b 1≠0 then chkE s.b 1 else if 12<d then 2 else 0:=by
 unfold qbo;rw[hu];simp[hs]
theorem c_ref08_stmt(s:St)(d:Int):APure Tryz.prog 137 [.agg s.x,I d] (I (qbo s d)):=by
 refine qak Tryz.func137 Tryz.ntmps137 rfl (by kernel_rfl) rfl rfl fun E h hN hh hu hb=>?_;simp-dsimp[go_sem,hN];refine qaa (c_ref08_uses s.op) ?_;simp-dsimp[go_sem,hN];obtain⟨u,hu⟩:∃u,usesR s.op=u:=⟨_,rfl⟩
 rw[hu]
 repeat refine⟨by grind,?_⟩
 refine qae (qdt s.a) (by simp) ?_;simp-dsimp[go_sem,hN]
 repeat refine⟨by grind,?_⟩
 refine qae (qdt s.b) (by simp) ?_;simp-dsimp[go_sem,hN]
 repeat refine⟨by grind,?_⟩
 refine cnd (fun h0=>?_) (fun h0=>?_)
 ·have hb':(qa8 s.op).2=false∨qb9 s (qa8 s.op).1=false:=by
   by_cases hr:s.op<1∨8<s.op
   ·exact .inl (uses_unknown hr)
   ·right;rw[uses_known (by omega),hu];simp at h0;unfold qb9;grind
  simp-dsimp[go_sem,hN];rw[qbo,if_pos hb']
 have hr:1≤s.op∧s.op≤8:=by simp at h0;omega
 have hk:=uses_known hr;rw[hu]at hk;simp-dsimp[go_sem,hN]
 repeat refine⟨by grind,?_⟩
 refine cnd (fun h1=>?_) (fun h1=>?_)
 ·have hb':(qa8 s.op).2=false∨qb9 s (qa8 s.op).1=false:=by
   right;rw[hk];simp at h1;unfold qb9;grind
  simp-dsimp[go_sem,hN];rw[qbo,if_pos hb']
 have hs:qb9 s u=true:=by
  simp at h0 h1;simp only[qb9,Bool.and_eq_true];refine⟨?_,?_⟩
  ·simp[em];grind
  ·split
   ·rename_i h6;simpa using h1.1 h6
   ·split
    ·rename_i h8;simpa using h1.2 h8
    ·rfl
 have hE:=stmtErr_R (s:=s) (d:=d) (by rw[hk,hu]) (by rw[hu];exact hs);rw[hu]at hE;obtain⟨R,hR⟩:∃R,qbo s d=R:=⟨_,rfl⟩
 rw[hR]at hE⊢;simp-dsimp[go_sem,hN];refine qae (c_ref07_IsName s.name) (by simp) ?_;simp-dsimp[go_sem,hN];refine cnd (fun h2=>?_) (fun h2=>?_)
 ·simp-dsimp[go_sem,hN];simp at h2;rw[hE,if_pos h2]
 rw[if_neg (by simp at h2;grind)]at hE;simp-dsimp[go_sem,hN];refine cnd (fun h3=>?_) (fun h3=>?_)
 ·simp-dsimp[go_sem,hN];refine qaa (qdm s.a) ?_;simp-dsimp[go_sem,hN];refine cnd ?_ ?_<;>intro h4<;>simp at h4
  ·simp-dsimp[go_sem,hN];rw[hE,if_pos ⟨h3,h4⟩]
  rw[if_neg (fun g=>g.2 h4)]at hE;simp-dsimp[go_sem,hN];refine cnd (fun h5=>?_) (fun h5=>?_)
  ·simp-dsimp[go_sem,hN];refine qaa (qdm s.b) ?_;simp-dsimp[go_sem,hN];refine cnd ?_ ?_<;>intro h6<;>simp at h6
   ·simp-dsimp[go_sem,hN];rw[hE,if_pos ⟨h5,h6⟩]
   rw[if_neg (fun g=>g.2 h6)]at hE;simp-dsimp[go_sem,hN];refine cnd ?_ ?_<;>intro h7<;>simp at h7<;>simp-dsimp[go_sem,hN]<;>first|rw[hE,if_pos h7]|rw[hE,if_neg (by omega)]
  ·rw[if_neg (by simp[h5])]at hE;simp-dsimp[go_sem,hN];refine cnd ?_ ?_<;>intro h7<;>simp at h7<;>simp-dsimp[go_sem,hN]<;>first|rw[hE,if_pos h7]|rw[hE,if_neg (by omega)]
 ·rw[if_neg (by simp[h3])]at hE;simp-dsimp[go_sem,hN];refine cnd (fun h5=>?_) (fun h5=>?_)
  ·simp-dsimp[go_sem,hN];refine qaa (qdm s.b) ?_;simp-dsimp[go_sem,hN];refine cnd ?_ ?_<;>intro h6<;>simp at h6
   ·simp-dsimp[go_sem,hN];rw[hE,if_pos ⟨h5,h6⟩]
   rw[if_neg (fun g=>g.2 h6)]at hE;simp-dsimp[go_sem,hN];refine cnd ?_ ?_<;>intro h7<;>simp at h7<;>simp-dsimp[go_sem,hN]<;>first|rw[hE,if_pos h7]|rw[hE,if_neg (by omega)]
  ·rw[if_neg (by simp[h5])]at hE;simp-dsimp[go_sem,hN];refine cnd ?_ ?_<;>intro h7<;>simp at h7<;>simp-dsimp[go_sem,hN]<;>first|rw[hE,if_pos h7]|rw[hE,if_neg (by omega)]
theorem c_ref08_params(l:List Param):APure Tryz.prog 135 [.slice (l.map Param.c)] (I (paramsE l)):=by
 refine qak Tryz.func135 Tryz.ntmps135 rfl (by kernel_rfl) rfl rfl fun E h hN hh hu hb=>?_;unfold paramsE;simp[go_sem]at hb;simp-dsimp[go_sem,hN];refine cnd ?_ ?_<;>intro h0<;>simp at h0
 ·simp-dsimp[go_sem,hN];omega
 simp-dsimp[go_sem,hN];rw[if_neg (by omega)];refine qam l.length (fun n=>qc4 (l.take n) (l.drop n)=qc4 [] l) (fun n=>⟨[(0,.slice (l.map Param.c)),(3,I n)],h⟩) (by simp) wkA ?_;intro n hn hI;have hw:=qa2 hn hb.1;simp-dsimp[go_sem,hN];refine cnd ?_ ?_<;>intro hc<;>simp at hc
 ·rw[qaf hc,qc4]at hI;simp-dsimp[go_sem,hN,hc];refine qaa (c_ref07_IsName _) ?_;simp-dsimp[go_sem,hN];refine cnd ?_ ?_<;>intro h1<;>simp at h1
  ·simp-dsimp[go_sem,hN];simpa[h1]using hI
  simp-dsimp[go_sem,hN,hc]
  repeat refine⟨by grind,?_⟩
  refine cnd (fun h2=>?_) (fun h2=>?_)
  ·simp-dsimp[go_sem,hN];rw[←hI,if_neg (by simp[h1]),if_pos (by simp at h2;omega)]
  have h2':¬(l[n].ty<1∨3<l[n].ty):=by simp at h2;omega
  rw[if_neg (by simp[h1]),if_neg h2']at hI;simp-dsimp[go_sem,hN];obtain⟨f,hf⟩:∃f:Param→Bool,f=fun q=>decide (q.name=l[n].name):=⟨_,rfl⟩
  rw[←hf]at hI;refine qam n (fun k=>anyL f ((l.take n).drop k)=anyL f (l.take n)) (fun k=>⟨[(0,.slice (l.map Param.c)),(3,I n),(4,I k)],h⟩) (by simp) wkA ?_;intro k hk hJ;have hwk:=qa2 hk (show _≤68719476736 by omega);simp-dsimp[go_sem,hN];refine cnd ?_ ?_<;>intro hkc<;>simp at hkc
  ·have hkl:k<l.length:=by omega
   have hkt:k<(l.take n).length:=by simp;omega
   rw[qaf hkt,anyL]at hJ;have het:(l.take n)[k]=l[k]:=by simp
   rw[het]at hJ;refine qai 10 mixed (by kernel_rfl) (by kernel_rfl) ?_;simp-dsimp[go_sem,hN,hkl,hc];refine cnd ?_ ?_<;>intro hg<;>simp at hg
   ·simp-dsimp[go_sem,hN];have:f l[k]=true:=by rw[hf];simp[hg]
    rw[this,Bool.true_or]at hJ;rw[←hI,←hJ];rfl
   ·simp-dsimp[go_sem,hN,hwk];have:f l[k]=false:=by rw[hf];simp[hg]
    exact⟨hkc,by simpa[this]using hJ,wkA⟩
  ·have hkn:k=n:=by omega
   subst hkn;rw[List.drop_eq_nil_of_le (by rw[List.length_take];omega),anyL]at hJ;simp-dsimp[go_sem,hN,hw];refine⟨hc,?_,wkA⟩;rw[List.take_succ_eq_append_getElem hc];rw[←hJ]at hI;simpa using hI
 ·rw[List.drop_eq_nil_of_le (by omega),qc4]at hI;simp-dsimp[go_sem,hN,←hI]
theorem wkE_len(e:Ex)(r:Bool)(out:List Vt)(h:out.length≤401):(wkE e r out).length≤401:=by
 rw[wkE_eq];split
 ·exact h
 ·exact(wkEL_fold (keepS (σ:=Unit)) qb2 e.args _ () (by simp;omega)).1
mutual
theorem wkE_mono:∀(e:Ex) (r:Bool) (out:List Vt),out.length≤(wkE e r out).length
 | .mk op n s args,r,out=>by
  rw[wkE];split
  ·exact Nat.le_refl _
  ·have:=wkEL_mono args (out++[Vt.ofE (.mk op n s args) r]);simp at this;omega
theorem wkEL_mono:∀(l:List Ex) (out:List Vt),out.length≤(wkEL l out).length
 | [],out=>by rw[wkEL];exact Nat.le_refl _
 |e::l,out=>by
  rw[wkEL];split
  ·have h1:=wkE_mono e false out;have h2:=wkEL_mono l (wkE e false out);omega
  ·exact Nat.le_refl _
end
theorem wkF_mono(e:Ex)(out:List Vt):out.length≤(wkF e out).length:=by
 unfold wkF;split
 ·exact Nat.le_refl _
 ·exact wkE_mono e true out
mutual
theorem wkS_mono:∀(t:St) (d:Nat) (out:List Vt),out.length≤(wkS t d out).length
 | .mk _ _ _ a b body els,d,out=>by
  rw[wkS];have h1:=wkF_mono a out;have h2:=wkF_mono b (wkF a out);have h3:=qd9 body (d+1) (wkF b (wkF a out));have h4:=qd9 els (d+1) (wkB body (d+1) (wkF b (wkF a out)));omega
theorem qd9:∀(l:List St) (d:Nat) (out:List Vt),out.length≤(wkB l d out).length
 | [],d,out=>by rw[wkB];exact Nat.le_refl _
 |t::l,d,out=>by
  rw[wkB];split
  ·have h1:=wkS_mono t d (out++[Vt.ofS t d]);have h2:=qd9 l d (wkS t d (out++[Vt.ofS t d]));simp at h1;omega
  ·exact Nat.le_refl _
end
theorem wkB_len(l:List St)(d:Nat)(out:List Vt)(h:out.length≤401):(wkB l d out).length≤401:=(wkB_fold (keepS (σ:=Unit)) qb2 l d out () h).1
section
theorem exz1:Ex.z.op=0:=rfl
theorem exz2:Ex.z.n=0:=rfl
theorem exz3:Ex.z.s=em:=rfl
theorem exz4:Ex.z.args=[]:=rfl
theorem stz1:St.z.op=0:=rfl
theorem stz2:St.z.name=em:=rfl
theorem stz3:St.z.max=0:=rfl
theorem stz4:St.z.a=Ex.z:=rfl
theorem stz5:St.z.b=Ex.z:=rfl
theorem stz6:St.z.body=[]:=rfl
theorem stz7:St.z.els=[]:=rfl
attribute [local go_sem] Vt.c Vt.ofS Vt.ofE exz1 exz2 exz3 exz4 stz1 stz2 stz3 stz4 stz5 stz6 stz7
theorem qdw(e:Ex)(r:Bool)(out:List Vt)(h:qab)(i:Nat)(hi:h[i]?=some (.uarr 170 20 (out.map Vt.c)))(hl:out.length≤401) :
  ACalls Tryz.prog 227 [.own i out.length,.agg e.x,Bo r] h fun q h'=>q=.ret (.own i (wkE e r out).length)∧h'=h.set i (.uarr 170 20 ((wkE e r out).map Vt.c)):=by
 refine qaz Tryz.func227 Tryz.ntmps227 rfl (by kernel_rfl) rfl fun E hN hh hu hb hb' hua=>?_;simp[go_sem]at hb;have hil:i<h.length:=(List.getElem?_eq_some_iff.1 hi).1;have a1:∀l:qab,(h++l)[i]?=h[i]?:=fun l=>List.getElem?_append_left hil;have a2:∀(l:qab) (y:AObj),(h++l).set i y=h.set i y++l:=fun l y=>List.set_append_left _ _ hil;have a3:∀(o:AObj) (l:qab),(h.set i o++l)[i]?=some o:=fun o l=>by rw[List.getElem?_append_left (by simpa using hil)];simp[hil]
 have a4:∀(o y:AObj) (l:qab),(h.set i o++l).set i y=h.set i y++l:=fun o y l=>by rw[List.set_append_left _ _ (by simpa using hil),List.set_set]
 have a5:∀(o x:AObj) (l:qab),(h.set i o++x::l)[h.length]?=some x:=fun o x l=>by rw[List.getElem?_append_right (by simp)];simp
 have hus:∀(rs:List (List AV)),hUnder h.length (h.set i (.uarr 170 20 rs))=true:=fun rs=>qcg hu (by simp[AObj.under]);have hn:(out.map Vt.c).length=out.length:=by simp
 have e0:h.set i (.uarr 170 20 (out.map Vt.c))=h:=qdc hi;have hil1:i<h.length+1:=Nat.lt_succ_of_lt hil;have hue:∀(rs:List (List AV)),hUnder (h.length+1) (h.set i (.uarr 170 20 rs)++[.cells [I e.op,I e.n,S e.s,.slice (e.args.map Ex.c)]])=true:=fun rs=>by
  rw[qar,qau (Nat.le_succ _) (hus rs)];simp[hUnder,AObj.under,AV.under,qao]
 obtain⟨W,hW⟩:∃W,wkE e r out=W:=⟨_,rfl⟩
 rw[hW];rw[wkE_eq]at hW;simp-dsimp[go_sem,hN,a1,a2,a3,a4,a5,hi];refine cnd ?_ ?_<;>intro h0<;>simp at h0
 ·rw[if_pos (by omega)]at hW;rw[←hW,e0];simp-dsimp[go_sem,hN,a1,hi];exact⟨_,.refl _,h,by simp[go_sem,hi,hil],hwk.app0 _,by simp,hu,rfl,rfl⟩
 rw[if_neg (by omega)]at hW;simp-dsimp[go_sem,hN,a1,a2,a3,a4,a5,hi];obtain⟨o1,ho1⟩:∃o1,out++[Vt.ofE e r]=o1:=⟨_,rfl⟩
 rw[ho1]at hW;have hl1:o1.length=out.length+1:=by rw[←ho1];simp
 have hr1:out.map Vt.c++[(Vt.ofE e r).c]=o1.map Vt.c:=by rw[←ho1];simp
 refine⟨by omega,?_⟩;refine qap (α:=List Vt) e.args.length (fun n o=>wkEL (e.args.drop n) o=wkEL e.args o1∧o.length≤401∧out.length<o.length) (fun n o=>⟨[(0,.own i o.length),(4,P0 h.length),(7,I n)],h.set i (.uarr 170 20 (o.map Vt.c))++[.cells e.x]⟩) o1 ⟨by simp,by omega,by omega⟩ ?_ ?_
 ·refine Wk.mk (by simp[hh]) (by simp[go_sem,←ho1]) (by simp[hue,go_sem]) (by simp[go_sem,←ho1,hil1])
 rintro n o hn' ⟨hI,ho,hlo⟩;have hw:=qa2 hn' (show _≤68719476736 by first|exact hb.1.2.1|exact hb.2.1|exact hb.1|exact hb|omega);simp-dsimp[go_sem,hN,a3,a4,a5];refine cnd ?_ ?_<;>intro hc<;>simp at hc
 ·have hc1:n<e.args.length:=by omega
  have hlt:SizeOf.sizeOf e.args[n]<SizeOf.sizeOf e:=Ex.arg_lt (List.getElem_mem hc1);rw[qaf hc1,wkEL,if_pos (by omega)]at hI;simp-dsimp[go_sem,hN,a3,a4,a5,hc1];refine qaj (qdw e.args[n] false o _ i (a3 _ _) ho) ?_;rintro q h' ⟨rfl,rfl⟩;simp-dsimp[go_sem,hN,a3,a4,a5,hw];refine⟨hc1,wkE e.args[n] false o,⟨hI,wkE_len _ _ _ ho,by have:=wkE_mono e.args[n] false o;omega⟩,?_⟩;refine Wk.mk (by simp[hh]) (by simp[go_sem,a4]) (by simp[hue,go_sem]) (by simp[go_sem,hil1])
 ·have he:wkEL (e.args.drop n) o=o:=by
   by_cases h2:n<e.args.length
   ·rw[qaf h2,wkEL,if_neg (by have:=hc h2;omega)]
   ·rw[List.drop_eq_nil_of_le (by omega),wkEL]
  rw[he,hW]at hI;subst hI;simp-dsimp[go_sem,hN,a3];exact⟨_,.refl _,h.set i (.uarr 170 20 (o.map Vt.c)),by simp[go_sem,hil],hwk.app0 _,by simp,by simpa using hus _,rfl,rfl⟩
termination_by SizeOf.sizeOf e
theorem qbn(l:List St)(d:Nat)(out:List Vt)(h:qab)(i:Nat)(hi:h[i]?=some (.uarr 170 20 (out.map Vt.c)))(hl:out.length≤401)(hd:d≤out.length+1) :
  ACalls Tryz.prog 185 [.own i out.length,.slice (l.map St.c),I d] h fun q h'=>q=.ret (.own i (wkB l d out).length)∧h'=h.set i (.uarr 170 20 ((wkB l d out).map Vt.c)):=by
 refine qaz Tryz.func185 Tryz.ntmps185 rfl (by kernel_rfl) rfl fun E hN hh hu hb hb' hua=>?_;simp[go_sem]at hb;have hil:i<h.length:=(List.getElem?_eq_some_iff.1 hi).1;have a1:∀l:qab,(h++l)[i]?=h[i]?:=fun l=>List.getElem?_append_left hil;have a2:∀(l:qab) (y:AObj),(h++l).set i y=h.set i y++l:=fun l y=>List.set_append_left _ _ hil;have a3:∀(o:AObj) (l:qab),(h.set i o++l)[i]?=some o:=fun o l=>by rw[List.getElem?_append_left (by simpa using hil)];simp[hil]
 have a4:∀(o y:AObj) (l:qab),(h.set i o++l).set i y=h.set i y++l:=fun o y l=>by rw[List.set_append_left _ _ (by simpa using hil),List.set_set]
 have a6:∀(o:AObj),(h.set i o)[i]?=some o:=fun o=>by simp[hil]
 have a7:∀(o y:AObj),(h.set i o).set i y=h.set i y:=fun o y=>List.set_set ..;have hus:∀(rs:List (List AV)),hUnder h.length (h.set i (.uarr 170 20 rs))=true:=fun rs=>qcg hu (by simp[AObj.under]);obtain⟨W,hW⟩:∃W,wkB l d out=W:=⟨_,rfl⟩
 rw[hW];have e0:h.set i (.uarr 170 20 (out.map Vt.c))=h:=qdc hi;have hw1:IntKind.i64.wrap ((d:Int)+1)=((d+1:Nat):Int):=by rw[wrapI (by omega) (by omega)];omega
 simp-dsimp[go_sem,hN,a1,a2,a3,a4,hi];refine qap (α:=List Vt) l.length (fun n o=>wkB (l.drop n) d o=W∧o.length≤401∧out.length≤o.length) (fun n o=>⟨[(0,.own i o.length),(1,.slice (l.map St.c)),(2,I d),(7,I n)],h.set i (.uarr 170 20 (o.map Vt.c))⟩) out ⟨by simpa using hW,hl,Nat.le_refl _⟩ ?_ ?_
 ·rw[e0];exact Wk.mk (by simp[hh]) (by simp[go_sem]) (by simp[hu,qan hu,go_sem,hil]) (by simp[go_sem,hil])
 rintro n o hn' ⟨hI,ho,hlo⟩;have hw:=qa2 hn' (show _≤68719476736 by first|exact hb.1.1|exact hb.1|exact hb.2.1|omega);simp-dsimp[go_sem,hN,a6,a7];refine cnd ?_ ?_<;>intro hc<;>simp at hc
 ·have hc1:n<l.length:=by omega
  have hlt:SizeOf.sizeOf l[n]<SizeOf.sizeOf l:=List.sizeOf_lt_of_mem (List.getElem_mem hc1);have hlb:SizeOf.sizeOf l[n].body<SizeOf.sizeOf l:=by cases hx:l[n];rw[hx]at hlt;simp at hlt;simp[St.body];omega
  have hle:SizeOf.sizeOf l[n].els<SizeOf.sizeOf l:=by cases hx:l[n];rw[hx]at hlt;simp at hlt;simp[St.els];omega
  rw[qaf hc1,wkB,if_pos (by omega)]at hI;rw[wkS_eq]at hI;simp-dsimp[go_sem,hN,a6,a7,hc1,hw1];obtain⟨o1,ho1⟩:∃o1,o++[Vt.ofS l[n] d]=o1:=⟨_,rfl⟩
  have hl1:o1.length=o.length+1:=by rw[←ho1];simp
  have hr1:o.map Vt.c++[(Vt.ofS l[n] d).c]=o1.map Vt.c:=by rw[←ho1];simp
  simp only[Vt.ofS,Vt.c,exz1,exz2,exz3,exz4,List.map_nil,em]at hr1;rw[ho1]at hI;refine⟨by omega,?_⟩;rw[hr1];rw[←hl1];refine qaa (qdt l[n].a) ?_;simp-dsimp[go_sem,hN,a6,a7,hc1,hw1];rcases ga:absE l[n].a with _|_
  ·simp-dsimp[go_sem,hN,a6,a7,hc1,hw1];refine qaj (qdw l[n].a true o1 _ i (a6 _) (by omega)) ?_;rintro q h' ⟨rfl,rfl⟩;simp-dsimp[go_sem,hN,a6,a7,hc1,hw1];have fo2:wkF l[n].a o1=wkE l[n].a true o1:=by unfold wkF;rw[if_neg (by simp[ga])]
   have ko2:=wkE_len l[n].a true o1 (by omega);have mo2:=wkE_mono l[n].a true o1;obtain⟨o2,ho2⟩:∃x,wkE l[n].a true o1=x:=⟨_,rfl⟩
   rw[ho2]at fo2 ko2 mo2⊢;rw[fo2]at hI;refine qaa (qdt l[n].b) ?_;simp-dsimp[go_sem,hN,a6,a7,hc1,hw1];rcases gb:absE l[n].b with _|_
   ·simp-dsimp[go_sem,hN,a6,a7,hc1,hw1];refine qaj (qdw l[n].b true o2 _ i (a6 _) (by omega)) ?_;rintro q h' ⟨rfl,rfl⟩;simp-dsimp[go_sem,hN,a6,a7,hc1,hw1];have fo3:wkF l[n].b o2=wkE l[n].b true o2:=by unfold wkF;rw[if_neg (by simp[gb])]
    have ko3:=wkE_len l[n].b true o2 (by omega);have mo3:=wkE_mono l[n].b true o2;obtain⟨o3,ho3⟩:∃x,wkE l[n].b true o2=x:=⟨_,rfl⟩
    rw[ho3]at fo3 ko3 mo3⊢;rw[fo3]at hI;refine qaj (qbn l[n].body (d+1) o3 _ i (a6 _) (by omega) (by omega)) ?_;rintro q h' ⟨rfl,rfl⟩;simp-dsimp[go_sem,hN,a6,a7,hc1,hw1];have k4:=wkB_len l[n].body (d+1) o3 (by omega);have m4:=qd9 l[n].body (d+1) o3;obtain⟨o4,h4⟩:∃x,wkB l[n].body (d+1) o3=x:=⟨_,rfl⟩
    rw[h4]at k4 m4 hI⊢;refine qaj (qbn l[n].els (d+1) o4 _ i (a6 _) (by omega) (by omega)) ?_;rintro q h' ⟨rfl,rfl⟩;simp-dsimp[go_sem,hN,a6,a7,hc1,hw1,hw];have k5:=wkB_len l[n].els (d+1) o4 (by omega);have m5:=qd9 l[n].els (d+1) o4;exact⟨wkB l[n].els (d+1) o4,⟨hI,k5,by omega⟩,Wk.mk (by simp[hh]) (by simp[go_sem]) (by simp[hus,go_sem]) (by simp[go_sem,hil])⟩
   ·simp-dsimp[go_sem,hN,a6,a7,hc1,hw1];have fo3:wkF l[n].b o2=o2:=by unfold wkF;rw[if_pos gb]
    obtain⟨o3,ho3⟩:∃x,x=o2:=⟨_,rfl⟩
    rw[fo3,←ho3]at hI;rw[←ho3];have ko3:o3.length≤401:=by rw[ho3];omega
    have mo3:o2.length≤o3.length:=by rw[ho3];omega
    refine qaj (qbn l[n].body (d+1) o3 _ i (a6 _) (by omega) (by omega)) ?_;rintro q h' ⟨rfl,rfl⟩;simp-dsimp[go_sem,hN,a6,a7,hc1,hw1];have k4:=wkB_len l[n].body (d+1) o3 (by omega);have m4:=qd9 l[n].body (d+1) o3;obtain⟨o4,h4⟩:∃x,wkB l[n].body (d+1) o3=x:=⟨_,rfl⟩
    rw[h4]at k4 m4 hI⊢;refine qaj (qbn l[n].els (d+1) o4 _ i (a6 _) (by omega) (by omega)) ?_;rintro q h' ⟨rfl,rfl⟩;simp-dsimp[go_sem,hN,a6,a7,hc1,hw1,hw];have k5:=wkB_len l[n].els (d+1) o4 (by omega);have m5:=qd9 l[n].els (d+1) o4;exact⟨wkB l[n].els (d+1) o4,⟨hI,k5,by omega⟩,Wk.mk (by simp[hh]) (by simp[go_sem]) (by simp[hus,go_sem]) (by simp[go_sem,hil])⟩
  ·simp-dsimp[go_sem,hN,a6,a7,hc1,hw1];have fo2:wkF l[n].a o1=o1:=by unfold wkF;rw[if_pos ga]
   obtain⟨o2,ho2⟩:∃x,x=o1:=⟨_,rfl⟩
   rw[fo2,←ho2]at hI;rw[←ho2];have ko2:o2.length≤401:=by rw[ho2];omega
   have mo2:o1.length≤o2.length:=by rw[ho2];omega
   refine qaa (qdt l[n].b) ?_;simp-dsimp[go_sem,hN,a6,a7,hc1,hw1];rcases gb:absE l[n].b with _|_
   ·simp-dsimp[go_sem,hN,a6,a7,hc1,hw1];refine qaj (qdw l[n].b true o2 _ i (a6 _) (by omega)) ?_;rintro q h' ⟨rfl,rfl⟩;simp-dsimp[go_sem,hN,a6,a7,hc1,hw1];have fo3:wkF l[n].b o2=wkE l[n].b true o2:=by unfold wkF;rw[if_neg (by simp[gb])]
    have ko3:=wkE_len l[n].b true o2 (by omega);have mo3:=wkE_mono l[n].b true o2;obtain⟨o3,ho3⟩:∃x,wkE l[n].b true o2=x:=⟨_,rfl⟩
    rw[ho3]at fo3 ko3 mo3⊢;rw[fo3]at hI;refine qaj (qbn l[n].body (d+1) o3 _ i (a6 _) (by omega) (by omega)) ?_;rintro q h' ⟨rfl,rfl⟩;simp-dsimp[go_sem,hN,a6,a7,hc1,hw1];have k4:=wkB_len l[n].body (d+1) o3 (by omega);have m4:=qd9 l[n].body (d+1) o3;obtain⟨o4,h4⟩:∃x,wkB l[n].body (d+1) o3=x:=⟨_,rfl⟩
    rw[h4]at k4 m4 hI⊢;refine qaj (qbn l[n].els (d+1) o4 _ i (a6 _) (by omega) (by omega)) ?_;rintro q h' ⟨rfl,rfl⟩;simp-dsimp[go_sem,hN,a6,a7,hc1,hw1,hw];have k5:=wkB_len l[n].els (d+1) o4 (by omega);have m5:=qd9 l[n].els (d+1) o4;exact⟨wkB l[n].els (d+1) o4,⟨hI,k5,by omega⟩,Wk.mk (by simp[hh]) (by simp[go_sem]) (by simp[hus,go_sem]) (by simp[go_sem,hil])⟩
   ·simp-dsimp[go_sem,hN,a6,a7,hc1,hw1];have fo3:wkF l[n].b o2=o2:=by unfold wkF;rw[if_pos gb]
    obtain⟨o3,ho3⟩:∃x,x=o2:=⟨_,rfl⟩
    rw[fo3,←ho3]at hI;rw[←ho3];have ko3:o3.length≤401:=by rw[ho3];omega
    have mo3:o2.length≤o3.length:=by rw[ho3];omega
    refine qaj (qbn l[n].body (d+1) o3 _ i (a6 _) (by omega) (by omega)) ?_;rintro q h' ⟨rfl,rfl⟩;simp-dsimp[go_sem,hN,a6,a7,hc1,hw1];have k4:=wkB_len l[n].body (d+1) o3 (by omega);have m4:=qd9 l[n].body (d+1) o3;obtain⟨o4,h4⟩:∃x,wkB l[n].body (d+1) o3=x:=⟨_,rfl⟩
    rw[h4]at k4 m4 hI⊢;refine qaj (qbn l[n].els (d+1) o4 _ i (a6 _) (by omega) (by omega)) ?_;rintro q h' ⟨rfl,rfl⟩;simp-dsimp[go_sem,hN,a6,a7,hc1,hw1,hw];have k5:=wkB_len l[n].els (d+1) o4 (by omega);have m5:=qd9 l[n].els (d+1) o4;exact⟨wkB l[n].els (d+1) o4,⟨hI,k5,by omega⟩,Wk.mk (by simp[hh]) (by simp[go_sem]) (by simp[hus,go_sem]) (by simp[go_sem,hil])⟩
 ·have he:wkB (l.drop n) d o=o:=by
   by_cases h2:n<l.length
   ·rw[qaf h2,wkB,if_neg (by have:=hc h2;omega)]
   ·rw[List.drop_eq_nil_of_le (by omega),wkB]
  rw[he]at hI;subst hI;simp-dsimp[go_sem,hN,a6];exact⟨_,.refl _,h.set i (.uarr 170 20 (o.map Vt.c)),by simp[go_sem,hil],hwk.refl _,by simp,by simpa using hus _,rfl,rfl⟩
termination_by SizeOf.sizeOf l
theorem c_ref08_Walk(p:Proc):APure Tryz.prog 136 [.agg p.c] (.slice ((wkP p).map Vt.c)):=by
 refine apure_introB Tryz.func136 rfl (by kernel_rfl) (by simp[Tryz.ntmps136]) rfl ?_;intro E h hN hh hu hb;rw[Tryz.ntmps136]at hN;refine qbj (awp_ops ?_);simp[go_sem,hN];refine qbj (awp_opsT [_,_] _ ?_);simp[go_sem,hN];intro c a w s k;have hwb:=qbn p.body 1 [] (h++[.cells p.c]++[.uarr 170 20 []]) (h.length+1) (by simp) (by simp) (by simp);have hcall:=acalls_nilret (t:=170) (sz:=20) (rows:=(wkP p).map Vt.c) (n:=(wkP p).length) (h:=h++[.cells p.c]) (P:=Tryz.prog) (f:=185) (rest:=[.slice (p.body.map St.c),I 1]) (by simp) (by simpa using hwb) (by simp[qan hu,hu,go_sem]);refine wp_callR s k rfl rfl (by omega) rfl (by simp[go_sem]) (x:=.slice ((wkP p).map Vt.c)) (h2:=h++[.cells p.c]) ?_ ?_
 ·simpa[go_sem]using hcall
 intro c' a' w' s' k';refine qc9 _ [_,_,_] _ rfl ?_ c' a' w' s' k';simp[go_sem,hN];apply qay;simp-dsimp[go_sem,hN]
end
section
attribute [local go_sem] Vt.c
theorem c_ref08_Validate(p:Proc):APure Tryz.prog 81 [.agg p.c] (I (qcn p)):=by
 refine qak Tryz.func81 Tryz.ntmps81 rfl (by kernel_rfl) rfl rfl fun E h hN hh hu hb=>?_;rw[validP_walk];simp-dsimp[go_sem,hN];refine qaa (c_ref07_IsName p.name) ?_;simp-dsimp[go_sem,hN];refine cnd ?_ ?_<;>intro h0<;>simp at h0
 ·simp-dsimp[go_sem,hN,h0]
 rw[if_neg (by simp[h0])];simp-dsimp[go_sem,hN];refine qaa (c_ref08_params p.params) ?_;simp-dsimp[go_sem,hN];refine cnd ?_ ?_<;>intro h1<;>simp at h1
 ·simp-dsimp[go_sem,hN,h1]
 rw[if_neg (by simp[h1])];simp-dsimp[go_sem,hN];refine qaa (c_ref08_Walk p) ?_;simp-dsimp[go_sem,hN];have hlen:=(wkP_fold (keepS (σ:=Unit)) qb2 p ()).1;obtain⟨L,hL⟩:∃L,wkP p=L:=⟨_,rfl⟩
 rw[hL]at hlen⊢;refine qam L.length (fun n=>errV (L.drop n)=errV L) (fun n=>⟨[(4,.slice (L.map Vt.c)),(5,I n)],h⟩) (by simp) wkA ?_;intro n hn hI;have hw:=qa2 hn (show _≤68719476736 by omega);simp-dsimp[go_sem,hN];refine cnd ?_ ?_<;>intro hc<;>simp at hc
 ·rw[qaf hc,errV]at hI;simp-dsimp[go_sem,hN,hc];refine cnd ?_ ?_<;>intro h2<;>try simp at h2
  ·simp-dsimp[go_sem,hN,hc];refine qai 10 mixed (by kernel_rfl) (by kernel_rfl) ?_;simp-dsimp[go_sem,hN,hc];refine qaa (c_ref08_stmt L[n].t L[n].d) ?_;simp-dsimp[go_sem,hN];refine cnd ?_ ?_<;>intro h3<;>try simp at h3
   ·rw[if_pos ⟨h2,h3⟩]at hI;rw[←hI,if_pos h3];simp-dsimp[go_sem,hN]
   ·rw[if_neg (fun g=>g.2 h3)]at hI;simp-dsimp[go_sem,hN,hw];exact⟨hc,hI,wkA⟩
  ·rw[if_neg (by simp[h2])]at hI;simp-dsimp[go_sem,hN,hw];exact⟨hc,hI,wkA⟩
 ·rw[List.drop_eq_nil_of_le (by omega),errV]at hI;rw[←hI,if_neg (by simp)];simp-dsimp[go_sem,hN];refine cnd ?_ ?_<;>intro h2<;>try simp at h2
  ·rw[if_pos (by omega)];simp-dsimp[go_sem,hN]
  ·rw[if_neg (by omega)];simp-dsimp[go_sem,hN]
theorem c_ref08_Exprs(p:Proc):APure Tryz.prog 127 [.agg p.c] (.slice ((rootV (wkP p)).map Ex.c)):=by
 refine qak Tryz.func127 Tryz.ntmps127 rfl (by kernel_rfl) rfl rfl fun E h hN hh hu hb=>?_;simp-dsimp[go_sem,hN];refine qaa (c_ref08_Walk p) ?_;simp-dsimp[go_sem,hN];have hlen:=(wkP_fold (keepS (σ:=Unit)) qb2 p ()).1;obtain⟨L,hL⟩:∃L,wkP p=L:=⟨_,rfl⟩
 rw[hL]at hlen⊢;refine qap (α:=List Ex) L.length (fun n o=>o++rootV (L.drop n)=rootV L∧o.length≤n) (fun n o=>⟨[(3,.slice (L.map Vt.c)),(4,.own (h.length+1) o.length),(5,I n)],h++[.cells p.c,.arr 59 4 (o.map Ex.c)]⟩) [] (by simp) ((nil_wk E _ 4 59 4 (by simp[go_sem])).trans ?_) ?_
 ·simp;exact wkA
 rintro n o hn ⟨hI,ho⟩;have hw:=qa2 hn (show _≤68719476736 by omega);simp-dsimp[go_sem,hN];refine cnd ?_ ?_<;>intro hc<;>simp at hc
 ·rw[qaf hc,rootV]at hI;simp-dsimp[go_sem,hN,hc];refine cnd ?_ ?_<;>intro h2<;>try simp at h2
  ·rw[if_pos h2]at hI;simp-dsimp[go_sem,hN,hc,hw];refine⟨by omega,o++[L[n].e],⟨by simpa using hI,by simp;omega⟩,wkA⟩
  ·rw[if_neg (by simp[h2])]at hI;simp-dsimp[go_sem,hN,hw];exact⟨hc,o,⟨hI,by omega⟩,wkA⟩
 ·rw[List.drop_eq_nil_of_le (by omega),rootV]at hI;simp at hI;simp-dsimp[go_sem,hN,hI]
theorem c_ref08_Names(p:Proc)(hP:p.params.length≤34359738368):APure Tryz.prog 83 [.agg p.c] (.slice ((p.params.map (·.name)++nameV (wkP p)).map qa1)):=by
 refine qak Tryz.func83 Tryz.ntmps83 rfl (by kernel_rfl) rfl rfl fun E h hN hh hu hb=>?_;simp[go_sem]at hb;simp-dsimp[go_sem,hN];refine qap (α:=List qac) p.params.length (fun n o=>o++(p.params.drop n).map (·.name)=p.params.map (·.name)∧o.length=n) (fun n o=>⟨[(1,P0 h.length),(3,.own (h.length+1) o.length),(4,I n)],h++[.cells p.c,.arr 9 1 (o.map qa1)]⟩) [] (by simp) ((nil_wk E _ 3 9 1 (by simp[go_sem])).trans ?_) ?_
 ·simp;exact wkA
 rintro n o hn ⟨hI,ho⟩;have hw:=qa2 hn (show _≤68719476736 by omega);simp-dsimp[go_sem,hN];refine cnd ?_ ?_<;>intro hc<;>simp at hc
 ·rw[qaf hc]at hI;simp-dsimp[go_sem,hN,hc,hw];refine⟨by omega,o++[p.params[n].name],⟨by rw[List.append_assoc,←List.map_drop];exact hI,by simp[ho]⟩,wkA⟩
 ·rw[List.drop_eq_nil_of_le (by omega)]at hI;simp at hI;simp-dsimp[go_sem,hN];refine qaa (c_ref08_Walk p) ?_;simp-dsimp[go_sem,hN];have hlen:=(wkP_fold (keepS (σ:=Unit)) qb2 p ()).1;obtain⟨L,hL⟩:∃L,wkP p=L:=⟨_,rfl⟩
  rw[hL]at hlen⊢;have hol:o.length≤34359738368:=by omega
  obtain⟨N,hN2⟩:∃N,p.params.map (·.name)++nameV L=N:=⟨_,rfl⟩
  refine qap (α:=List qac) L.length (fun k q=>q++nameV (L.drop k)=N∧q.length≤o.length+k) (fun k q=>⟨[(3,.own (h.length+1) q.length),(5,.slice (L.map Vt.c)),(6,I k)],h++[.cells p.c,.arr 9 1 (q.map qa1)]⟩) o ⟨by rw[hI,←hN2];simp,by omega⟩ wkA ?_;rintro k q hk ⟨hJ,hq⟩;have hw:=qa2 hk (show _≤68719476736 by omega);simp-dsimp[go_sem,hN];refine cnd ?_ ?_<;>intro hd<;>simp at hd
  ·rw[qaf hd,nameV]at hJ;simp-dsimp[go_sem,hN,hd];refine⟨by grind,?_⟩;refine cnd ?_ ?_<;>intro h2<;>try simp at h2
   ·rw[if_pos h2]at hJ;simp-dsimp[go_sem,hN,hd,hw];refine⟨by omega,q++[L[k].t.name],⟨by simpa using hJ,by simp;omega⟩,wkA⟩
   ·rw[if_neg (by grind)]at hJ;simp-dsimp[go_sem,hN,hw];exact⟨hd,q,⟨hJ,by omega⟩,wkA⟩
  ·rw[List.drop_eq_nil_of_le (by omega),nameV]at hJ;simp at hJ;simp-dsimp[go_sem,hN,hJ];rw[←hN2];simp
end
end Go.Proofs.YtilhejdbiionhaaGreatDoor

set_option maxRecDepth 4000
set_option maxHeartbeats 2000000
namespace Go.Proofs.YtilhejdbiionhaaGreatDoor
open Go Go.Abs Go.Cw
def pRow(q:qac×Int):List AV:=[S q.1,I q.2]
section
attribute [local go_sem] pRow
theorem c_ref11_lookup(vars:Vis)(k:qac):APure Tryz.prog 190 [.slice (vars.map pRow),S k] (.tuple [I (varT (qbg vars k)).1,I (varT (qbg vars k)).2]):=by
 refine qak Tryz.func190 Tryz.ntmps190 rfl (by kernel_rfl) rfl rfl fun E h hN hh hu hb=>?_;simp[go_sem]at hb;simp-dsimp[go_sem,hN];refine qam vars.length (fun n=>qbg (vars.drop n) k=qbg vars k) (fun n=>⟨[(0,.slice (vars.map pRow)),(1,S k),(6,I n)],h⟩) (by simp) wkA ?_;intro n hn hI;have hw:=qa2 hn hb.1.1;simp-dsimp[go_sem,hN];refine cnd ?_ ?_<;>intro hc<;>simp at hc
 ·rw[qaf hc,qbg]at hI;simp-dsimp[go_sem,hN,hc];refine cnd ?_ ?_<;>intro hg<;>simp at hg
  ·rw[if_pos hg]at hI;simp-dsimp[go_sem,hN,hc]
   repeat refine⟨by grind,?_⟩
   refine cnd (fun h1=>?_) (fun h1=>?_)
   ·simp-dsimp[go_sem,hN];rw[←hI,varT,if_pos (by simp at h1;omega)];exact⟨rfl,rfl⟩
   ·simp-dsimp[go_sem,hN,hc];rw[←hI,varT,if_neg (by simp at h1;omega)];exact⟨rfl,rfl⟩
  ·simp-dsimp[go_sem,hN,hw];exact⟨hc,by simpa[hg]using hI,wkA⟩
 ·rw[List.drop_eq_nil_of_le (by omega),qbg]at hI;simp-dsimp[go_sem,hN];rw[←hI];exact⟨rfl,rfl⟩
def leafT(vars:Vis)(op:Int)(s:qac):Int×Int:=if op=3 then varT (qbg vars s)else if op=2 then(2,0)else(1,0)
theorem c_ref11_leaf(vars:Vis)(e:Ex):APure Tryz.prog 264 [.agg e.x,.slice (vars.map pRow)] (.tuple [I (leafT vars e.op e.s).1,I (leafT vars e.op e.s).2]):=by
 refine qak Tryz.func264 Tryz.ntmps264 rfl (by kernel_rfl) rfl rfl fun E h hN hh hu hb=>?_;simp-dsimp[go_sem,hN];refine cnd ?_ ?_<;>intro h0<;>simp at h0
 ·simp-dsimp[go_sem,hN];refine qaa (c_ref11_lookup vars e.s) ?_;simp-dsimp[go_sem,hN,leafT,h0]
 simp-dsimp[go_sem,hN];refine cnd ?_ ?_<;>intro h1<;>simp at h1<;>simp-dsimp[go_sem,hN,leafT,h0,h1]
def unT(op:Int):Int×Int:=if op=9 then(1,1)else if op=18 then(3,3)else if op=20 then(1,2)else if op=21∨op=22 then(2,1)else if op=23 then(2,2)else(2,3)
theorem unT_sig{op:Int}(h:qb0 op=1):unT op=qcm op:=by
 have hop:op=9∨op=18∨op=20∨op=21∨op=22∨op=23∨op=24:=by
  unfold qb0 at h;split at h
  ·omega
  split at h
  ·omega
  split at h<;>omega
 rcases hop with rfl|rfl|rfl|rfl|rfl|rfl|rfl<;>rfl
theorem c_ref11_unary(op:Int):APure Tryz.prog 265 [I op] (.tuple [I (unT op).1,I (unT op).2]):=by
 refine qak Tryz.func265 Tryz.ntmps265 rfl (by kernel_rfl) rfl rfl fun E h hN hh hu hb=>?_;by_cases h9:op=9
 ·subst h9;simp-dsimp[go_sem,hN,unT]
 by_cases h18:op=18
 ·subst h18;simp-dsimp[go_sem,hN,unT]
 by_cases h20:op=20
 ·subst h20;simp-dsimp[go_sem,hN,unT]
 by_cases h21:op=21
 ·subst h21;simp-dsimp[go_sem,hN,unT]
 by_cases h22:op=22
 ·subst h22;simp-dsimp[go_sem,hN,unT]
 by_cases h23:op=23
 ·subst h23;simp-dsimp[go_sem,hN,unT]
 simp-dsimp[go_sem,hN,unT,h9,h18,h20,h21,h22,h23]
theorem c_ref11_binary(op a b:Int):APure Tryz.prog 266 [I op,I a,I b] (I (binT op a b)):=by
 refine qak Tryz.func266 Tryz.ntmps266 rfl (by kernel_rfl) rfl rfl fun E h hN hh hu hb=>?_;simp-dsimp[go_sem,hN];refine cnd (fun h0=>?_) (fun h0=>?_)
 ·simp-dsimp[go_sem,hN];rw[binT,if_pos (by simpa using h0)]
 have h0':¬a≠b:=by simpa using h0
 simp-dsimp[go_sem,hN]
 repeat refine⟨by grind,?_⟩
 refine cnd (fun h1=>?_) (fun h1=>?_)
 ·simp-dsimp[go_sem,hN];rw[binT,if_neg h0',if_pos (by simp at h1;grind)]
 have h1':¬(4≤op∧op≤8∧a=1):=by simp at h1;grind
 simp-dsimp[go_sem,hN]
 repeat refine⟨by grind,?_⟩
 refine cnd (fun h2=>?_) (fun h2=>?_)
 ·simp-dsimp[go_sem,hN];rw[binT,if_neg h0',if_neg h1',if_pos (by simp at h2;grind)]
 have h2':¬(op=10∨op=11∨(12≤op∧op≤15∧a≠3)∨((op=16∨op=17)∧a=3)):=by simp at h2;grind
 simp-dsimp[go_sem,hN]
 repeat refine⟨by grind,?_⟩
 refine cnd (fun h3=>?_) (fun h3=>?_)
 ·simp-dsimp[go_sem,hN];rw[binT,if_neg h0',if_neg h1',if_neg h2',if_pos (by simp at h3;grind)]
 ·simp-dsimp[go_sem,hN];rw[binT,if_neg h0',if_neg h1',if_neg h2',if_neg (by simp at h3;grind)]
theorem c_ref11_typeOf(vars:Vis)(e:Ex)(d:Nat)(hv:chkE e d=0):APure Tryz.prog 229 [.agg e.x,.slice (vars.map pRow)] (.tuple [I (ofE vars e).1,I (ofE vars e).2]):=by
 have har:=qd5 hv;refine qak Tryz.func229 Tryz.ntmps229 rfl (by kernel_rfl) rfl rfl fun E h hN hh hu hb=>?_;simp-dsimp[go_sem,hN];refine qaa (c_ref08_Arity e.op) ?_;simp-dsimp[go_sem,hN];refine cnd ?_ ?_<;>intro h0<;>simp at h0
 ·have ha:e.args=[]:=List.eq_nil_of_length_eq_zero (by omega);have ho:ofE vars e=leafT vars e.op e.s:=ofE_0 vars h0 ha;rw[ho];simp-dsimp[go_sem,hN];refine qaa (c_ref11_leaf vars e) ?_;simp-dsimp[go_sem,hN]
 have hpos:0<e.args.length:=by
  have:e.args.length≠0:=fun g=>h0 (by omega);omega
 have hlt0:SizeOf.sizeOf e.args[0]<SizeOf.sizeOf e:=Ex.arg_lt (List.getElem_mem hpos);have hv0:=chkE_args hv _ (List.getElem_mem hpos);simp-dsimp[go_sem,hN,hpos];refine qaa (c_ref11_typeOf vars e.args[0] (d+1) hv0) ?_;simp-dsimp[go_sem,hN];refine cnd ?_ ?_<;>intro h1<;>simp at h1
 ·have ho:ofE vars e=((0:Int),(ofE vars e.args[0]).2):=by
   have h12:qb0 e.op=1∨qb0 e.op=2:=by have:=arity_le e.op;omega
   rcases h12 with h12|h12
   ·obtain⟨a,ha⟩:∃a,e.args=[a]:=by
     match hm:e.args,(show e.args.length=1 by omega)with
     | [a],_=>exact⟨a,rfl⟩
    rw[ofE_1 vars h12 ha];simp only[ha,List.getElem_cons_zero]at h1⊢;rw[if_pos h1]
   ·obtain⟨a,b,ha⟩:∃a b,e.args=[a,b]:=by
     match hm:e.args,(show e.args.length=2 by omega)with
     | [a,b],_=>exact⟨a,b,rfl⟩
    rw[ofE_2 vars h12 ha];simp only[ha,List.getElem_cons_zero]at h1⊢;rw[if_pos h1]
  rw[ho];simp-dsimp[go_sem,hN]
 simp-dsimp[go_sem,hN];refine cnd ?_ ?_<;>intro h2<;>simp at h2
 ·obtain⟨a,ha⟩:∃a,e.args=[a]:=by
   match hm:e.args,(show e.args.length=1 by omega)with
   | [a],_=>exact⟨a,rfl⟩
  have ho:=ofE_1 vars h2 ha;simp only[ha,List.getElem_cons_zero]at h1;rw[if_neg (by simpa using h1)]at ho;simp-dsimp[go_sem,hN];refine qaa (c_ref11_unary e.op) ?_;simp-dsimp[go_sem,hN,unT_sig h2,ha];refine cnd (fun h3=>?_) (fun h3=>?_)
  ·simp-dsimp[go_sem,hN];rw[ho,if_pos (by simpa using h3)];exact⟨rfl,rfl⟩
  ·simp-dsimp[go_sem,hN];rw[ho,if_neg (by simpa using h3)];exact⟨rfl,rfl⟩
 have h12:qb0 e.op=2:=by have:=arity_le e.op;omega
 have hl1:1<e.args.length:=by omega
 have hlt1:SizeOf.sizeOf e.args[1]<SizeOf.sizeOf e:=Ex.arg_lt (List.getElem_mem hl1);have hv1:=chkE_args hv _ (List.getElem_mem hl1);simp-dsimp[go_sem,hN,hl1];refine qaa (c_ref11_typeOf vars e.args[1] (d+1) hv1) ?_;simp-dsimp[go_sem,hN];obtain⟨a,b,ha⟩:∃a b,e.args=[a,b]:=by
  match hm:e.args,(show e.args.length=2 by omega)with
  | [a,b],_=>exact⟨a,b,rfl⟩
 have ho:=ofE_2 vars h12 ha;have ea:e.args[0]=a:=by simp[ha]
 have eb:e.args[1]=b:=by simp[ha]
 rw[ea]at h1;rw[if_neg (by simpa using h1)]at ho;refine cnd (fun h3=>?_) (fun h3=>?_)
 ·rw[eb]at h3;rw[if_pos (by simpa using h3)]at ho;simp-dsimp[go_sem,hN,eb,ho]
 rw[eb]at h3;rw[if_neg (by simpa using h3)]at ho;simp-dsimp[go_sem,hN,ea,eb];refine qaa (c_ref11_binary e.op _ _) ?_;simp-dsimp[go_sem,hN];refine cnd (fun h4=>?_) (fun h4=>?_)
 ·simp-dsimp[go_sem,hN];rw[ho,if_pos (by simpa using h4)];exact⟨rfl,rfl⟩
 ·simp-dsimp[go_sem,hN];rw[ho,if_neg (by simpa using h4)];exact⟨rfl,rfl⟩
termination_by SizeOf.sizeOf e
theorem c_ref11_Of(vars:Vis)(e:Ex)(hv:chkE e 1=0):APure Tryz.prog 189 [.agg e.x,.slice (vars.map pRow)] (.tuple [I (ofE vars e).1,I (ofE vars e).2]):=by
 refine qak Tryz.func189 Tryz.ntmps189 rfl (by kernel_rfl) rfl rfl fun E h hN hh hu hb=>?_;simp-dsimp[go_sem,hN];refine qaa (qdm e) ?_;simp-dsimp[go_sem,hN,hv];refine qaa (c_ref11_typeOf vars e 1 hv) ?_;simp-dsimp[go_sem,hN]
theorem c_ref11_wrong(op a b:Int):APure Tryz.prog 140 [I op,I a,I b] (Bo (qby op a b)):=by
 refine qak Tryz.func140 Tryz.ntmps140 rfl (by kernel_rfl) rfl rfl fun E h hN hh hu hb=>?_;by_cases h3:op=3
 ·subst h3;simp-dsimp[go_sem,hN,qby]
 by_cases h4:op=4
 ·subst h4;simp-dsimp[go_sem,hN,qby]
 by_cases h5:op=5
 ·subst h5;simp-dsimp[go_sem,hN,qby]
 by_cases h6:op=6
 ·subst h6;simp-dsimp[go_sem,hN,qby]
 by_cases h7:op=7
 ·subst h7;simp-dsimp[go_sem,hN,qby]
 simp-dsimp[go_sem,hN,qby,h3,h4,h5,h6,h7]
theorem c_ref11_with(vars:Vis)(loops:List qac)(name:qac)(t:Int)(lp:Bool)(hB:vars.length+1≤68719476736)(hB2:loops.length+1≤68719476736):APure Tryz.prog 82 [.agg [.slice (vars.map pRow),.slice (loops.map qa1)],S name,I t,Bo lp] (.agg [.slice ((vars++[(name,t)]).map pRow),.slice ((if lp then loops++[name]else loops).map qa1)]):=by
 refine qak Tryz.func82 Tryz.ntmps82 rfl (by kernel_rfl) rfl rfl fun E h hN hh hu hb=>?_;simp[go_sem]at hb;simp-dsimp[go_sem,hN];refine⟨by omega,by omega,by omega,?_⟩;rcases lp with _|_
 ·simp-dsimp[go_sem,hN]
 ·simp-dsimp[go_sem,hN];omega
end
end Go.Proofs.YtilhejdbiionhaaGreatDoor
