/- Part 37 of a proof: W23, W24, W25 -/
import Derived.Shelf.Small.Strs
import Derived.Shelf.Strconv.Itoa4
import Derived.Lib.ItoaLen
import Derived.Test.YtilhejdbiionhaaGreatDoorQ13
import Derived.Test.YtilhejdbiionhaaGreatDoorQ14
import Derived.Test.YtilhejdbiionhaaGreatDoorQ16
import Derived.Test.YtilhejdbiionhaaGreatDoorQ17
import Derived.Test.YtilhejdbiionhaaGreatDoorQ21
import Derived.Test.YtilhejdbiionhaaGreatDoorQ22
import Derived.Test.YtilhejdbiionhaaGreatDoorQ23
import Derived.Test.YtilhejdbiionhaaGreatDoorQ27
import Derived.Test.YtilhejdbiionhaaGreatDoorQ32
import Derived.Test.YtilhejdbiionhaaGreatDoorQ36
set_option linter.all false

set_option maxRecDepth 4000
set_option maxHeartbeats 4000000
namespace Go.Proofs.YtilhejdbiionhaaGreatDoor
open Go Go.Abs Go.Cw
attribute [local go_sem] mC
variable {C:Cfg} {tT:TypeId} {tx:Nat×Nat} {g m v o io ir ip:Nat} {K:MQ→qaa} {n0:Nat}
theorem c_machine_unary (Y:MHs C tT tx g m v o io ir ip K n0) (hF:C.fmt=qa8) (s:MS) (op:Int) (a:V) (ha:ascS s.reads) (hl:s.reads.length+1≤68719476736) (hr:qdx a) :
  ACalls Tryz.prog 174 [.ptr m 0,I op,.agg a.c] (K s.q) fun r h'=>r=endV (unS C op a s).1∧h'=K (unS C op a s).2.q:=by
 refine qav Tryz.func174 Tryz.ntmps174 rfl (by kernel_rfl) rfl fun E hN hh hu hb hb' hua=>?_;simp -dsimp [go_sem,hN,Y.len];refine cnd ?_ ?_<;>intro h0<;>simp at h0
 ·
  rw [unS,if_pos h0];simp -dsimp [go_sem,hN,Y.loc,Y.len];refine qag (qde (decide (a.k=1)) _) ?_;rintro r h' ⟨⟨hm,rfl⟩ | ⟨hm,rfl⟩,rfl⟩<;>simp at hm
  ·
   simp -dsimp [go_sem,hN,Y.loc,Y.len];refine qac (c_num_Neg a.n) ?_;simp -dsimp [go_sem,hN,Y.loc,Y.len];refine qag (qcy (numNeg a.n) _) ?_;rintro r h' ⟨rfl,rfl⟩;rw [if_pos hm];cases qce (numNeg a.n)<;>simp -dsimp [go_sem,hN,endV,Y.loc1,Y.sloc1,Y.len]<;>exact ⟨_,.refl _,K s.q,by simp [go_sem],by first | exact hwk.refl _ | exact hwk.app0 _ | simp [hwk.refl],by simp [Y.len],Y.und' _,by first | rfl | simp,by first | rfl | simp [MS.q]⟩
  ·
   simp -dsimp [go_sem,hN];rw [if_neg hm];exact ⟨_,.refl _,K s.q,by simp [go_sem],by first | exact hwk.refl _ | exact hwk.app0 _ | simp [hwk.refl],by simp [Y.len],Y.und' _,by first | rfl | simp,by first | rfl | simp [MS.q]⟩
 simp -dsimp [go_sem,hN,Y.len];rw [unS,if_neg h0];refine cnd ?_ ?_<;>intro h1<;>simp at h1
 ·
  rw [if_pos h1];simp -dsimp [go_sem,hN,Y.loc,Y.len];refine qag (qde (decide (a.k=3)) _) ?_;rintro r h' ⟨⟨hm,rfl⟩ | ⟨hm,rfl⟩,rfl⟩<;>simp at hm
  ·
   simp -dsimp [go_sem,hN,Y.loc,Y.len];refine qac (qbp (decide (a.n=0))) ?_;simp -dsimp [go_sem,hN,Y.loc1,Y.sloc1,Y.len];rw [if_pos hm];exact ⟨_,.refl _,K s.q,by simp [go_sem],by first | exact hwk.refl _ | exact hwk.app0 _ | simp [hwk.refl],by simp [Y.len],Y.und' _,by first | rfl | simp,by first | rfl | simp [MS.q]⟩
  ·
   simp -dsimp [go_sem,hN];rw [if_neg hm];exact ⟨_,.refl _,K s.q,by simp [go_sem],by first | exact hwk.refl _ | exact hwk.app0 _ | simp [hwk.refl],by simp [Y.len],Y.und' _,by first | rfl | simp,by first | rfl | simp [MS.q]⟩
 simp -dsimp [go_sem,hN,Y.len];rw [if_neg h1];refine cnd ?_ ?_<;>intro h2<;>simp at h2
 ·
  rw [if_pos h2];simp -dsimp [go_sem,hN,Y.loc,Y.len];refine qag (qde (decide (a.k=1)) _) ?_;rintro r h' ⟨⟨hm,rfl⟩ | ⟨hm,rfl⟩,rfl⟩<;>simp at hm
  ·
   simp -dsimp [go_sem,hN,Y.loc,Y.len];refine qag (c_num_Format a.n hr.1 _ g (Y.lg' _ _)) ?_;rintro r h' ⟨rfl,rfl⟩;simp -dsimp [go_sem,hN];refine qag (c_interp_text _ _) ?_;rintro r h' ⟨rfl,rfl⟩;rw [if_pos hm,hF];cases textS (qa8 a.n)<;>simp -dsimp [go_sem,hN,endV,Y.loc1,Y.sloc1,Y.len]<;>exact ⟨_,.refl _,K s.q,by simp [go_sem],by first | exact hwk.refl _ | exact hwk.app0 _ | simp [hwk.refl],by simp [Y.len],Y.und' _,by first | rfl | simp,by first | rfl | simp [MS.q]⟩
  ·
   simp -dsimp [go_sem,hN];rw [if_neg hm];exact ⟨_,.refl _,K s.q,by simp [go_sem],by first | exact hwk.refl _ | exact hwk.app0 _ | simp [hwk.refl],by simp [Y.len],Y.und' _,by first | rfl | simp,by first | rfl | simp [MS.q]⟩
 simp -dsimp [go_sem,hN,Y.len];rw [if_neg h2];refine cnd ?_ ?_<;>intro h3<;>simp at h3
 ·
  rw [if_pos h3];simp -dsimp [go_sem,hN,Y.loc,Y.len];refine qag (qde (decide (a.k=2)) _) ?_;rintro r h' ⟨⟨hm,rfl⟩ | ⟨hm,rfl⟩,rfl⟩<;>simp at hm
  ·
   simp -dsimp [go_sem,hN,Y.loc,Y.len];refine qac (qdi (a.s.size:Int)) ?_;simp -dsimp [go_sem,hN,Y.loc1,Y.sloc1,Y.len];rw [if_pos hm];exact ⟨_,.refl _,K s.q,by simp [go_sem],by first | exact hwk.refl _ | exact hwk.app0 _ | simp [hwk.refl],by simp [Y.len],Y.und' _,by first | rfl | simp,by first | rfl | simp [MS.q]⟩
  ·
   simp -dsimp [go_sem,hN];rw [if_neg hm];exact ⟨_,.refl _,K s.q,by simp [go_sem],by first | exact hwk.refl _ | exact hwk.app0 _ | simp [hwk.refl],by simp [Y.len],Y.und' _,by first | rfl | simp,by first | rfl | simp [MS.q]⟩
 simp -dsimp [go_sem,hN,Y.loc,Y.len];rw [if_neg h3];refine qag (qde (decide (a.k=2)) _) ?_;rintro r h' ⟨⟨hm,rfl⟩ | ⟨hm,rfl⟩,rfl⟩<;>simp at hm
 rotate_left
 ·
  simp -dsimp [go_sem,hN];rw [if_neg hm];exact ⟨_,.refl _,K s.q,by simp [go_sem],by first | exact hwk.refl _ | exact hwk.app0 _ | simp [hwk.refl],by simp [Y.len],Y.und' _,by first | rfl | simp,by first | rfl | simp [MS.q]⟩
 rw [if_neg (by simpa using hm)];simp -dsimp [go_sem,hN,Y.loc,Y.len];refine qag (c_machine_fetch (Y.ext [_,_] (by simp [hUnder,AObj.under,AV.under,qal])) s a.s ha hl) ?_;rintro r h' ⟨rfl,rfl⟩;rcases qbr C a.s s with ⟨z | w,s'⟩
 ·
  simp -dsimp [go_sem,hN,endV];exact ⟨_,.refl _,K s'.q,by simp [go_sem],by first | exact hwk.refl _ | exact hwk.app0 _ | simp [hwk.refl],by simp [Y.len],Y.und' _,by first | rfl | simp,by first | rfl | simp [MS.q]⟩
 simp -dsimp [go_sem,hN,endV,Y.loc,Y.loc1,Y.len];simp only [gotS];refine cnd ?_ ?_<;>intro h4<;>simp at h4
 ·
  simp -dsimp [go_sem,hN,Y.loc2,Y.len];refine qac (qbp (!decide (w.k=0))) ?_;simp -dsimp [go_sem,hN,Y.loc1,Y.sloc1,Y.len];rw [if_pos h4];exact ⟨_,.refl _,K s'.q,by simp [go_sem],by first | exact hwk.refl _ | exact hwk.app0 _ | simp [hwk.refl],by simp [Y.len],Y.und' _,by first | rfl | simp,by first | rfl | simp [MS.q]⟩
 rw [if_neg h4];simp -dsimp [go_sem,hN,Y.loc2,Y.len];refine cnd ?_ ?_<;>intro h5<;>simp at h5
 ·
  simp -dsimp [go_sem,hN];refine qac (qdi 0) ?_;simp -dsimp [go_sem,hN,Y.loc1,Y.sloc1,Y.len];rw [if_pos h5];exact ⟨_,.refl _,K s'.q,by simp [go_sem],by first | exact hwk.refl _ | exact hwk.app0 _ | simp [hwk.refl],by simp [Y.len],Y.und' _,by first | rfl | simp,by first | rfl | simp [MS.q]⟩
 rw [if_neg (by rintro ⟨k1,k2⟩;exact h5 k1 k2)];simp -dsimp [go_sem,hN,Y.loc2,Y.len];refine cnd ?_ ?_<;>intro h6<;>simp at h6
 ·
  simp -dsimp [go_sem,hN];refine qag (c_interp_text em _) ?_;rintro r h' ⟨rfl,rfl⟩;rw [if_pos h6];cases textS em<;>simp -dsimp [go_sem,hN,endV,Y.loc1,Y.sloc1,Y.len]<;>exact ⟨_,.refl _,K s'.q,by simp [go_sem],by first | exact hwk.refl _ | exact hwk.app0 _ | simp [hwk.refl],by simp [Y.len],Y.und' _,by first | rfl | simp,by first | rfl | simp [MS.q]⟩
 rw [if_neg (by rintro ⟨k1,k2⟩;exact h6 k1 k2)];simp -dsimp [go_sem,hN,Y.loc2,Y.len];refine cnd ?_ ?_<;>intro h7<;>simp at h7
 ·
  simp -dsimp [go_sem,hN];refine cnd (fun _=>?_) (fun hx=>by simp [h7] at hx);simp -dsimp [go_sem,hN];refine qag (qa2 1003 _) ?_;rintro r h' ⟨rfl,rfl⟩;simp -dsimp [go_sem,hN];rw [if_pos (.inl h7)];exact ⟨_,.refl _,K s'.q,by simp [go_sem],by first | exact hwk.refl _ | exact hwk.app0 _ | simp [hwk.refl],by simp [Y.len],Y.und' _,by first | rfl | simp,by first | rfl | simp [MS.q]⟩
 simp -dsimp [go_sem,hN,Y.loc2,Y.len];refine cnd ?_ ?_<;>intro h8<;>simp at h8
 ·
  simp -dsimp [go_sem,hN];refine qag (qa2 1003 _) ?_;rintro r h' ⟨rfl,rfl⟩;simp -dsimp [go_sem,hN];rw [if_pos (.inr h8)];exact ⟨_,.refl _,K s'.q,by simp [go_sem],by first | exact hwk.refl _ | exact hwk.app0 _ | simp [hwk.refl],by simp [Y.len],Y.und' _,by first | rfl | simp,by first | rfl | simp [MS.q]⟩
 simp -dsimp [go_sem,hN,Y.loc2,Y.loc1,Y.sloc1,Y.len];rw [if_neg (fun k=>k.elim (fun k=>k.2 (h7 k.1)) (fun k=>k.2 (h8 k.1)))];exact ⟨_,.refl _,K s'.q,by simp [go_sem],by first | exact hwk.refl _ | exact hwk.app0 _ | simp [hwk.refl],by simp [Y.len],Y.und' _,by first | rfl | simp,by first | rfl | simp [MS.q]⟩
end Go.Proofs.YtilhejdbiionhaaGreatDoor

set_option maxRecDepth 4000
set_option maxHeartbeats 4000000
namespace Go.Proofs.YtilhejdbiionhaaGreatDoor
open Go Go.Abs Go.Cw
attribute [local go_sem] mC
variable {C:Cfg} {tT:TypeId} {tx:Nat×Nat} {g m v o io ir ip:Nat}
theorem qbo (hF:C.fmt=qa8) (hC:rngC C) {K:MQ→qaa} {n0:Nat} (Y:MHs C tT tx g m v o io ir ip K n0) (s:MS) (e:Ex) (hX:rngX e) (hM:rngM s) (ha:ascS s.reads) (hl:s.reads.length+nodes e≤1000000000) :
  ACalls Tryz.prog 116 [.ptr m 0,.agg e.x] (K s.q) fun r h'=>r=endV (evE C e s).1∧h'=K (evE C e s).2.q:=by
 refine qav Tryz.func116 Tryz.ntmps116 rfl (by kernel_rfl) rfl fun E hN hh hu hb hb' hua=>?_;have hX':=(qdh _).1 hX;simp [go_sem] at hb;rw [evE_eq];simp -dsimp [go_sem,hN,Y.len,Y.loc];refine cnd ?_ ?_<;>intro h1<;>simp at h1
 ·
  simp -dsimp [go_sem,hN,Y.len,Y.loc];refine qac (qdi e.n) ?_;simp -dsimp [go_sem,hN,Y.len,Y.loc1,Y.sloc1];rw [if_pos h1];exact ⟨_,.refl _,K s.q,by simp [go_sem],by first | exact hwk.refl _ | exact hwk.app0 _ | simp [hwk.refl],by simp [Y.len],Y.und' _,by first | rfl | simp,by first | rfl | simp [MS.q]⟩
 rw [if_neg h1];simp -dsimp [go_sem,hN,Y.len,Y.loc];refine cnd ?_ ?_<;>intro h2<;>simp at h2
 ·
  simp -dsimp [go_sem,hN,Y.len,Y.loc,Y.loc1,Y.sloc1];rw [if_pos h2];exact ⟨_,.refl _,K s.q,by simp [go_sem],by first | exact hwk.refl _ | exact hwk.app0 _ | simp [hwk.refl],by simp [Y.len],Y.und' _,by first | rfl | simp,by first | rfl | simp [MS.q]⟩
 rw [if_neg h2];simp -dsimp [go_sem,hN,Y.len,Y.loc];refine cnd ?_ ?_<;>intro h3<;>simp at h3
 ·
  rw [if_pos h3];simp -dsimp [go_sem,hN];refine awp_drawG 12 mixed (by kernel_rfl) ?_;rcases hk:qa7 s.vars e.s with _ | w
  ·
   simp -dsimp [go_sem,hN,Y.len,Y.loc,Y.loc1,Y.loc2,Y.sloc1,Y.sloc2,Y.lm',Y.lv',hk];refine ⟨by have:=Y.hm;simp [sepD,List.zipIdx];exact .inl (by omega),?_⟩;refine qag (qde false _) ?_;rintro r h' ⟨⟨hm,rfl⟩ | ⟨hm,rfl⟩,rfl⟩<;>simp at hm;simp -dsimp [go_sem,hN];exact ⟨_,.refl _,K s.q,by simp [go_sem],by first | exact hwk.refl _ | exact hwk.app0 _ | simp [hwk.refl],by simp [Y.len],Y.und' _,by first | rfl | simp,by first | rfl | simp [MS.q]⟩
  ·
   simp -dsimp [go_sem,hN,Y.len,Y.loc,Y.loc1,Y.loc2,Y.sloc1,Y.sloc2,Y.lm',Y.lv',hk];refine ⟨by have:=Y.hm;simp [sepD,List.zipIdx];exact .inl (by omega),?_⟩;refine qag (qde true _) ?_;rintro r h' ⟨⟨hm,rfl⟩ | ⟨hm,rfl⟩,rfl⟩<;>simp at hm;simp -dsimp [go_sem,hN,Y.len,Y.loc,Y.loc1,Y.loc2,Y.sloc1,Y.sloc2];exact ⟨_,.refl _,K s.q,by simp [go_sem],by first | exact hwk.refl _ | exact hwk.app0 _ | simp [hwk.refl],by simp [Y.len],Y.und' _,by first | rfl | simp,by first | rfl | simp [MS.q]⟩
 rw [if_neg h3];simp -dsimp [go_sem,hN,Y.len,Y.loc];have hn:=nodes_eq e;refine qa0 (α:=List V×MS) e.args.length (fun n a=>a.1.length=n∧(∀ v∈a.1,qdx v)∧rngM a.2∧ascS a.2.reads∧a.2.reads.length+nodesL (e.args.drop n)+1≤1000000000 ∧
   evL C e.args s=match evL C (e.args.drop n) a.2 with
    | (.error z,m')=>(.error z,m')
    | (.ok r,m')=>(.ok (a.1++r),m'))
  (fun n a=>⟨[(0,.ptr m 0),(3,.ptr n0 0),(4,.ptr (n0+1) 0),(7,.own (n0+2) a.1.length),(38,.slice (e.args.map Ex.c)),(39,I e.args.length),(40,I n)],K a.2.q++[.cells e.x,.cells [I 0,I 0,S em],.arr 54 3 (a.1.map V.c)]⟩)
  ([],s) ⟨rfl,by simp,hM,ha,by simp;omega,?_⟩ ((nil_wk E _ 7 54 3 (by simp [go_sem])).trans ?_) ?_
 ·
  simp;rcases evL C e.args s with ⟨z | r,m'⟩<;>rfl
 ·
  simp [Y.len];have:=Y.hm;exact (Wk.mk (by simp [hh,Y.len]) (by simp [go_sem]) (by simp [Y.und,Y.undA,Y.len,go_sem]) (by simp [go_sem,Y.len]<;>omega))
 rintro n ⟨acc,s'⟩ hn' ⟨hal,hav,hM',ha',hl',hI⟩;dsimp only at hal hav hM' ha' hl' hI;have hmn:=Y.hm;have hw:=qbn hn' hb.2.1;simp -dsimp [go_sem,hN];refine cnd ?_ ?_<;>intro hc<;>simp at hc
 ·
  rw [qaj hc] at hI hl';rw [nodesL_cons] at hl';rw [evL] at hI;have hlt:SizeOf.sizeOf e.args[n]<SizeOf.sizeOf e:=Ex.arg_lt (List.getElem_mem hc);simp -dsimp [go_sem,hN,hc];refine qag (qbo hF hC (Y.ext [_,_,_,_] (by simp [hUnder,AObj.under,AV.under,qal])) s' e.args[n] (hX'.2 _ (List.getElem_mem hc)) hM' ha' (by omega)) ?_;rintro r h' ⟨rfl,rfl⟩;have hok:=evE_ok hC e.args[n] s' (hX'.2 _ (List.getElem_mem hc)) hM' ha';rcases hE:evE C e.args[n] s' with ⟨z | w,s2⟩
  ·
   rw [hE] at hI;simp only at hI;simp -dsimp [go_sem,hN,endV];rw [hI];exact ⟨_,.refl _,K s2.q,by simp [go_sem],by first | exact hwk.refl _ | exact hwk.app0 _ | simp [hwk.refl],by simp [Y.len],Y.und' _,by first | rfl | simp,by first | rfl | simp [MS.q]⟩
  ·
   rw [hE] at hI hok;simp only at hI hok;simp -dsimp [go_sem,hN,endV,Y.len,Y.loc,Y.loc1,Y.loc2,Y.loc3,Y.sloc2,hw];refine ⟨by omega,hc,acc++[w],s2,⟨by simp [hal],?_,hok.1.rng hM',hok.1.asc,by have:=hok.1.len;omega,?_⟩,(Wk.mk (by simp [hh,Y.len]) (by simp [go_sem]) (by simp [Y.und,Y.undA,Y.len,go_sem]) (by simp [go_sem,Y.len]<;>omega))⟩
   ·
    intro v hv;rcases List.mem_append.1 hv with hv | hv
    · exact hav v hv
    · simp at hv;subst hv;exact hok.2 _ rfl
   ·
    rw [hI];rcases evL C (e.args.drop (n+1)) s2 with ⟨z | r,m'⟩<;>simp
 ·
  rw [List.drop_eq_nil_of_le (by omega),evL] at hI;simp only [List.append_nil] at hI;rw [hI];have hln:acc.length=e.args.length:=by omega
  simp -dsimp [go_sem,hN,Y.len,Y.loc2];refine cnd ?_ ?_<;>intro h4<;>simp at h4
  ·
   obtain ⟨a,rfl⟩:∃ a,acc=[a]:=by
    match acc,h4 with
    | [a],_=>exact ⟨a,rfl⟩
    | [],h4=>simp at h4
    | _::_::_,h4=>simp at h4;omega
   simp -dsimp [go_sem,hN];refine qak 6 mixed (by kernel_rfl) (by kernel_rfl) ?_;simp -dsimp [go_sem,hN,Y.len,Y.loc,Y.loc1,Y.loc2,Y.sloc1]
   trace_state
   refine qag (c_machine_unary (Y.ext [_,_,_] (by simp [hUnder,AObj.under,AV.under,qal])) hF s' e.op a ha' (by omega) (hav a (by simp))) ?_;rintro r h' ⟨rfl,rfl⟩;simp only [opS];rcases unS C e.op a s' with ⟨z | w,s2⟩<;>simp -dsimp [go_sem,hN,endV,Y.len,Y.loc,Y.loc1,Y.loc2,Y.sloc1]<;>exact ⟨_,.refl _,K s2.q,by simp [go_sem],by first | exact hwk.refl _ | exact hwk.app0 _ | simp [hwk.refl],by simp [Y.len],Y.und' _,by first | rfl | simp,by first | rfl | simp [MS.q]⟩
  simp -dsimp [go_sem,hN];refine cnd ?_ ?_<;>intro h5<;>simp at h5
  ·
   obtain ⟨a,b,rfl⟩:∃ a b,acc=[a,b]:=by
    match acc,h5 with
    | [a,b],_=>exact ⟨a,b,rfl⟩
    | [],h5=>simp at h5
    | [_],h5=>simp at h5
    | _::_::_::_,h5=>simp at h5;omega
   have hra:=(hav a (by simp)).2;have hrb:=(hav b (by simp)).2;simp -dsimp [go_sem,hN];refine qak 8 mixed (by kernel_rfl) (by kernel_rfl) ?_;simp -dsimp [go_sem,hN,Y.len,Y.loc,Y.loc1,Y.loc2,Y.sloc1]
   trace_state
   refine qag (c_interp_binary e.op a b _ (by omega)) ?_;rintro r h' ⟨rfl,rfl⟩;simp only [opS];cases binS e.op a b<;>simp -dsimp [go_sem,hN,endV,Y.len,Y.loc,Y.loc1,Y.loc2,Y.sloc1]<;>exact ⟨_,.refl _,K s'.q,by simp [go_sem],by first | exact hwk.refl _ | exact hwk.app0 _ | simp [hwk.refl],by simp [Y.len],Y.und' _,by first | rfl | simp,by first | rfl | simp [MS.q]⟩
  simp -dsimp [go_sem,hN];refine qag (qa2 1009 _) ?_;rintro r h' ⟨rfl,rfl⟩;simp -dsimp [go_sem,hN];have ho:opS C e.op acc s'=(.error (ab 1009),s'):=by
   match acc,h4,h5 with
   | [],_,_=>rfl
   | [_],h4,_=>simp at h4
   | [_,_],_,h5=>simp at h5
   | _::_::_::_,_,_=>rfl
  rw [ho];exact ⟨_,.refl _,K s'.q,by simp [go_sem],by first | exact hwk.refl _ | exact hwk.app0 _ | simp [hwk.refl],by simp [Y.len],Y.und' _,by first | rfl | simp,by first | rfl | simp [MS.q]⟩
termination_by SizeOf.sizeOf e
end Go.Proofs.YtilhejdbiionhaaGreatDoor

set_option maxRecDepth 4000
set_option maxHeartbeats 4000000
namespace Go.Proofs.YtilhejdbiionhaaGreatDoor
open Go Go.Abs Go.Cw
attribute [local go_sem] mC
variable {C:Cfg} {tT:TypeId} {tx:Nat×Nat} {g m v o io ir ip:Nat}
def BlkSpec (C:Cfg) (tT:TypeId) (tx:Nat×Nat) (g m v o io ir ip:Nat) (l:List St):Prop :=
 ∀ {K:MQ→qaa} {n0:Nat} (_:MHs C tT tx g m v o io ir ip K n0) (s:MS),Inv 0 0 s→ACalls Tryz.prog 45 [.ptr m 0,.slice (l.map St.c)] (K s.q) fun r h'=>r=endU (qcu C l s).1∧h'=K (qcu C l s).2.q
theorem c_machine_loop (hF:C.fmt=qa8) (hC:rngC C) {K:MQ→qaa} {n0:Nat} (Y:MHs C tT tx g m v o io ir ip K n0) (t:St) (hop:t.op=6) (hG:goS t) (s:MS) (hI:Inv 8192 1 s) (hblk:BlkSpec C tT tx g m v o io ir ip t.body) :
  ACalls Tryz.prog 119 [.ptr m 0,.agg t.x] (K s.q) fun r h'=>r=endU (stI C t s).1∧h'=K (stI C t s).2.q:=by
 refine qav Tryz.func119 Tryz.ntmps119 rfl (by kernel_rfl) rfl fun E hN hh hu hb hb' hua=>?_;obtain ⟨op,name,mx,a,b,body,els⟩:=t;have hG':=(goS_iff _).1 hG;simp only [St.op,St.a,St.b,St.body,St.els] at hG' hop;obtain ⟨hA,hB,hbody,hels⟩:=hG';subst hop;have hra:=(hA (by omega))
 have hrb:=(hB (by omega))
 have hmn:=Y.hm;rw [stI];simp only [show ¬ ((6:Int)=1∨(6:Int)=2) by omega,show ¬ (6:Int)=3 by omega,show ¬ (6:Int)=4 by omega,show ¬ (6:Int)=5 by omega,if_false,if_true];have hst:=hI.st;have hrd:=hI.rd;simp -dsimp [go_sem,hN,Y.len,Y.loc];refine qag (qbo hF hC (Y.ext [_] (by simp [hUnder,AObj.under,AV.under,qal])) s a hra.1 hI.rng hI.ar (by have:=hra.2;omega)) ?_;rintro r h' ⟨rfl,rfl⟩;have h1:=hI.eval hC (r:=4097) hra;rcases hE:evE C a s with ⟨z | u,s1⟩
 ·
  simp -dsimp [go_sem,hN,endV,endU];exact ⟨_,.refl _,K s1.q,by simp [go_sem],by first | exact hwk.refl _ | exact hwk.app0 _ | simp [hwk.refl],by simp [Y.len],Y.und' _,by first | rfl | simp,by first | rfl | simp [MS.q]⟩
 rw [hE] at h1;simp only at h1;dsimp only;have hrd1:=h1.1.rd;have hst1:=h1.1.st;simp -dsimp [go_sem,hN,endV,Y.len,Y.loc,Y.loc1];refine qag (qbo hF hC (Y.ext [_,_] (by simp [hUnder,AObj.under,AV.under,qal])) s1 b hrb.1 h1.1.rng h1.1.ar (by have:=hrb.2;omega)) ?_;rintro r h' ⟨rfl,rfl⟩;have h2:=h1.1.eval hC (r:=2) hrb;rcases hE2:evE C b s1 with ⟨z | w,s2⟩
 ·
  simp -dsimp [go_sem,hN,endV,endU];exact ⟨_,.refl _,K s2.q,by simp [go_sem],by first | exact hwk.refl _ | exact hwk.app0 _ | simp [hwk.refl],by simp [Y.len],Y.und' _,by first | rfl | simp,by first | rfl | simp [MS.q]⟩
 rw [hE2] at h2;simp only at h2;dsimp only;simp -dsimp [go_sem,hN,endV,Y.len,Y.loc,Y.loc1,Y.loc2];refine qag (qde (decide (u.k=1)&&decide (w.k=1)) _) ?_;rintro r h' ⟨⟨hm,rfl⟩ | ⟨hm,rfl⟩,rfl⟩<;>simp at hm
 rotate_left
 ·
  simp -dsimp [go_sem,hN,endU];simp only [show ¬ (u.k=1∧w.k=1) from fun k=>hm k.1 k.2,if_false];exact ⟨_,.refl _,K s2.q,by simp [go_sem],by first | exact hwk.refl _ | exact hwk.app0 _ | simp [hwk.refl],by simp [Y.len],Y.und' _,by first | rfl | simp,by first | rfl | simp [MS.q]⟩
 simp only [hm.1,hm.2,and_self,if_true];simp -dsimp [go_sem,hN,Y.len,Y.loc,Y.loc1,Y.loc2]
 repeat refine ⟨by grind,?_⟩
 refine cnd ?_ ?_<;>intro h0<;>simp at h0
 ·
  have h0':tooMany u.n w.n mx:=h0;simp -dsimp [go_sem,hN];refine qag (qa2 1005 _) ?_;rintro r h' ⟨rfl,rfl⟩;simp -dsimp [go_sem,hN,endU,h0'];exact ⟨_,.refl _,K s2.q,by simp [go_sem],by first | exact hwk.refl _ | exact hwk.app0 _ | simp [hwk.refl],by simp [Y.len],Y.und' _,by first | rfl | simp,by first | rfl | simp [MS.q]⟩
 have h0':¬ tooMany u.n w.n mx:=fun k=>by have h3:=h0 k.1;have:=k.2;simp only [St.max] at h3;omega
 simp only [h0',if_false];simp -dsimp [go_sem,hN,Y.len,Y.loc,Y.loc1,Y.loc2];obtain ⟨L0,hL0⟩:∃ L0,L0=qcd (fun y=>qcu C body y) name w.n 16386 u.n s2:=⟨_,rfl⟩
 rw [← hL0];refine awp_loopM (α:=Nat×Int×MS) (fun x=>Cw.Inv 0 0 x.2.2∧i64 x.2.1∧(16386:Int)≤x.2.2.steps+x.1∧L0=qcd (fun y=>qcu C body y) name w.n x.1 x.2.1 x.2.2)
  (fun x=>⟨[(0,.ptr m 0),(3,.ptr n0 0),(5,.ptr (n0+2) 0),(6,I x.2.1)],K x.2.2.q++[.cells (St.mk 6 name mx a b body els).x,.cells [I 1,I u.n,S u.s],.cells [I 1,I w.n,S w.s]]⟩)
  (fun x=>x.1) (16386,u.n,s2) ⟨h2.1.mono (by omega) (by omega),(h1.2 _ rfl).1,by have:=h2.1.pt;simp only;omega,hL0⟩ (Wk.mk (by simp [hh,Y.len]) (by simp [go_sem]) (by simp [Y.und,Y.undA,Y.len,go_sem]) (by simp [go_sem,Y.len]<;>omega)) ?_
 rintro ⟨f,i,s3⟩ ⟨hI3,hi,hf,hL⟩;dsimp only at hI3 hi hf hL;have hst3:=hI3.st;obtain ⟨f,rfl⟩:∃ f',f=f'+1:=⟨f - 1,by omega⟩
 rw [qcd] at hL;simp -dsimp [go_sem,hN,Y.len,Y.loc,Y.loc1,Y.loc2];refine cnd ?_ ?_<;>intro hc<;>simp at hc
 rotate_left
 ·
  rw [if_neg (by omega)] at hL;rw [hL];simp -dsimp [go_sem,hN,endU];exact ⟨_,.refl _,K s3.q,by simp [go_sem],by first | exact hwk.refl _ | exact hwk.app0 _ | simp [hwk.refl],by simp [Y.len],Y.und' _,by first | rfl | simp,by first | rfl | simp [MS.q]⟩
 rw [if_pos hc] at hL;simp -dsimp [go_sem,hN];refine qag (c_machine_tick (Y.ext [_,_,_] (by simp [hUnder,AObj.under,AV.under,qal])) s3 (by omega)) ?_;rintro r h' ⟨rfl,rfl⟩;rcases hT:qc2 s3 with ⟨z | ⟨⟩,s4⟩
 ·
  rw [hT] at hL;simp only at hL;rw [hL];simp -dsimp [go_sem,hN,endU];exact ⟨_,.refl _,K s4.q,by simp [go_sem],by first | exact hwk.refl _ | exact hwk.app0 _ | simp [hwk.refl],by simp [Y.len],Y.und' _,by first | rfl | simp,by first | rfl | simp [MS.q]⟩
 rw [hT] at hL;simp only at hL;have hI4:=(hI3.tick hT).vars (rng_vI hi) name;simp -dsimp [go_sem,hN,endU];refine qak 8 mixed (by kernel_rfl) (by kernel_rfl) ?_;simp -dsimp [go_sem,hN,Y.len,Y.loc,Y.loc1,Y.loc2,Y.lm',Y.lv',Y.sv',kvSet_vI];refine qag (hblk (Y.ext [_,_,_] (by simp [hUnder,AObj.under,AV.under,qal])) { s4 with vars:=qbk s4.vars name (vI i) } (hI4.mono (by omega) (by omega))) ?_;rintro r h' ⟨rfl,rfl⟩;rcases hB5:qcu C body { s4 with vars:=qbk s4.vars name (vI i) } with ⟨z | ⟨⟩,s5⟩
 ·
  rw [hB5] at hL;simp only at hL;rw [hL];simp -dsimp [go_sem,hN,endU,hB5,St.body];exact ⟨_,.refl _,K s5.q,by simp [go_sem],by first | exact hwk.refl _ | exact hwk.app0 _ | simp [hwk.refl],by simp [Y.len],Y.und' _,by first | rfl | simp,by first | rfl | simp [MS.q]⟩
 rw [hB5] at hL;simp only at hL;simp -dsimp [go_sem,hN,endU,hB5,St.body];have hb1:=blkI_steps (C:=C) body { s4 with vars:=qbk s4.vars name (vI i) };have hb2:=tick_steps s3;rw [hB5] at hb1;rw [hT] at hb2;simp only at hb1 hb2;exact ⟨f,W64 (i+1),s5,⟨blkI_ok hC body _ _ _ hbody (hI4.mono (by omega) (by omega)) hB5,i64_w _,by omega,hL⟩,by omega,(Wk.mk (by simp [hh,Y.len]) (by simp [go_sem]) (by simp [Y.und,Y.undA,Y.len,go_sem]) (by simp [go_sem,Y.len]<;>omega))⟩
end Go.Proofs.YtilhejdbiionhaaGreatDoor
