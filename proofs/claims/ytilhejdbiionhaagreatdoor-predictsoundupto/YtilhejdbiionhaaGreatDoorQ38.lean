/- Part 38 of a proof: W26, W27, W14, W15 -/
import Derived.Shelf.Small.Strs
import Derived.Shelf.Strconv.Itoa4
import Derived.Lib.ItoaLen
import Derived.Test.YtilhejdbiionhaaGreatDoorQ13
import Derived.Test.YtilhejdbiionhaaGreatDoorQ14
import Derived.Test.YtilhejdbiionhaaGreatDoorQ16
import Derived.Test.YtilhejdbiionhaaGreatDoorQ17
import Derived.Test.YtilhejdbiionhaaGreatDoorQ21
import Derived.Test.YtilhejdbiionhaaGreatDoorQ22
import Derived.Test.YtilhejdbiionhaaGreatDoorQ23
import Derived.Test.YtilhejdbiionhaaGreatDoorQ27
import Derived.Test.YtilhejdbiionhaaGreatDoorQ32
import Derived.Test.YtilhejdbiionhaaGreatDoorQ33
import Derived.Test.YtilhejdbiionhaaGreatDoorQ35
import Derived.Test.YtilhejdbiionhaaGreatDoorQ36
import Derived.Test.YtilhejdbiionhaaGreatDoorQ37
set_option linter.all false

set_option maxRecDepth 4000
set_option maxHeartbeats 1000000
namespace Go.Proofs.YtilhejdbiionhaaGreatDoor
open Go Go.Abs Go.Cw
attribute [local go_sem] mC
variable {C:Cfg} {tT:TypeId} {tx:Nat×Nat} {g m v o io ir ip:Nat}
mutual
theorem qd2 (hF:C.fmt=qa8) (hC:rngC C) (l:List St) (hG:∀ x∈l,goS x) {K:MQ→qaa} {n0:Nat} (Y:MHs C tT tx g m v o io ir ip K n0) (s:MS) (hI:Cw.Inv 0 0 s) :
  ACalls Tryz.prog 45 [.ptr m 0,.slice (l.map St.c)] (K s.q) fun r h'=>r=endU (qcu C l s).1∧h'=K (qcu C l s).2.q:=by
 refine qav Tryz.func45 Tryz.ntmps45 rfl (by kernel_rfl) rfl fun E hN hh hu hb hb' hua=>?_;simp [go_sem] at hb;have hmn:=Y.hm;obtain ⟨L0,hL0⟩:∃ L0,L0=qcu C l s:=⟨_,rfl⟩
 rw [← hL0];simp -dsimp [go_sem,hN];refine qa0 (α:=MS) l.length (fun n s'=>Cw.Inv 0 0 s'∧L0=qcu C (l.drop n) s') (fun n s'=>⟨[(0,.ptr m 0),(6,.slice (l.map St.c)),(7,I l.length),(8,I n)],K s'.q⟩) s ⟨hI,by simpa using hL0⟩ (Wk.mk (by simp [hh,Y.len]) (by simp [go_sem]) (by simp [Y.und,Y.undA,Y.len,go_sem]) (by simp [go_sem,Y.len]<;>omega)) ?_;rintro n s1 hn ⟨hI1,hL⟩;have hw:=qbn hn hb.1;have hst1:=hI1.st;simp -dsimp [go_sem,hN];refine cnd ?_ ?_<;>intro hc<;>simp at hc
 rotate_left
 ·
  rw [List.drop_eq_nil_of_le (by omega),qcu] at hL;rw [hL];simp -dsimp [go_sem,hN,endU];exact ⟨_,.refl _,K s1.q,by simp [go_sem],by first | exact hwk.refl _ | exact hwk.app0 _ | simp [hwk.refl],by simp [Y.len],Y.und' _,by first | rfl | simp,by first | rfl | simp [MS.q]⟩
 rw [qaj hc,qcu] at hL;have hlt:SizeOf.sizeOf l[n]<SizeOf.sizeOf l:=List.sizeOf_lt_of_mem (List.getElem_mem hc);simp -dsimp [go_sem,hN,hc,Y.len,St.c_eq];refine qag (c_machine_tick (Y.ext [_] (by simp [hUnder,AObj.under,AV.under,qal])) s1 (by omega)) ?_;rintro r h' ⟨rfl,rfl⟩;rcases hT:qc2 s1 with ⟨z | ⟨⟩,s2⟩
 ·
  rw [hT] at hL;simp only at hL;rw [hL];simp -dsimp [go_sem,hN,endU];exact ⟨_,.refl _,K s2.q,by simp [go_sem],by first | exact hwk.refl _ | exact hwk.app0 _ | simp [hwk.refl],by simp [Y.len],Y.und' _,by first | rfl | simp,by first | rfl | simp [MS.q]⟩
 rw [hT] at hL;simp only at hL;have hI2:=hI1.tick hT;simp -dsimp [go_sem,hN,endU,Y.len,Y.loc];refine qag (c_machine_stmt hF hC l[n] (hG _ (List.getElem_mem hc)) (Y.ext [_] (by simp [hUnder,AObj.under,AV.under,qal])) s2 hI2) ?_;rintro r h' ⟨rfl,rfl⟩;rcases hS:stI C l[n] s2 with ⟨z | ⟨⟩,s3⟩
 ·
  rw [hS] at hL;simp only at hL;rw [hL];simp -dsimp [go_sem,hN,endU];exact ⟨_,.refl _,K s3.q,by simp [go_sem],by first | exact hwk.refl _ | exact hwk.app0 _ | simp [hwk.refl],by simp [Y.len],Y.und' _,by first | rfl | simp,by first | rfl | simp [MS.q]⟩
 rw [hS] at hL;simp only at hL;simp -dsimp [go_sem,hN,endU,hw];exact ⟨hc,s3,⟨stI_ok hC _ _ _ _ (hG _ (List.getElem_mem hc)) hI2 hS,hL⟩,(Wk.mk (by simp [hh,Y.len]) (by simp [go_sem]) (by simp [Y.und,Y.undA,Y.len,go_sem]) (by simp [go_sem,Y.len]<;>omega))⟩
termination_by (SizeOf.sizeOf l,0)
theorem c_machine_stmt (hF:C.fmt=qa8) (hC:rngC C) (t:St) (hG:goS t) {K:MQ→qaa} {n0:Nat} (Y:MHs C tT tx g m v o io ir ip K n0) (s:MS) (hI:Cw.Inv 8192 1 s) :
  ACalls Tryz.prog 74 [.ptr m 0,.agg t.x] (K s.q) fun r h'=>r=endU (stI C t s).1∧h'=K (stI C t s).2.q:=by
 refine qav Tryz.func74 Tryz.ntmps74 rfl (by kernel_rfl) rfl fun E hN hh hu hb hb' hua=>?_;simp [go_sem] at hb;have hG':=(goS_iff _).1 hG;have hmn:=Y.hm;obtain ⟨hA,hB,hbody,hels⟩:=hG';have hst:=hI.st;have hrd:=hI.rd;have hpt:=hI.pt;have hlB:SizeOf.sizeOf t.body<SizeOf.sizeOf t:=by cases t;simp [St.body];omega
 have hlE:SizeOf.sizeOf t.els<SizeOf.sizeOf t:=by cases t;simp [St.els];omega
 rw [stI_eq];simp -dsimp [go_sem,hN,Y.len,Y.loc];by_cases h12:t.op=1∨t.op=2
 ·
  rw [if_pos h12];have ha:=hA (by omega);have h1:=hI.eval hC (r:=4097) ha;have hc:=qbo hF hC (Y.ext [.cells t.x] (by simp [hUnder,AObj.under,AV.under,qal])) s t.a ha.1 hI.rng hI.ar (by have:=ha.2;omega);obtain ⟨x0,hx0⟩:∃ x0,x0=evE C t.a s:=⟨_,rfl⟩
  rw [← hx0] at hc ⊢;refine cnd ?_ ?_<;>intro h<;>simp at h
  all_goals
   rcases x0 with ⟨z | u,s1⟩
   ·
    try simp -dsimp [go_sem,hN]
    refine cnd (fun _=>?_) (fun k=>by simp at k;omega)
    try simp -dsimp [go_sem,hN]
    refine qd5 10 9 [0,1,2,3,4,5] mixed (by kernel_rfl) ?_;simp -dsimp [go_sem,hN,Y.len,Y.loc,Y.lm',Y.lv'];refine tkcall_pan (h2:=K s1.q++[.cells t.x]) (hc.mono (by rintro _ _ ⟨rfl,rfl⟩;exact ⟨rfl,rfl⟩)) ?_;simp -dsimp [go_sem,hN,endU];exact ⟨_,.refl _,K s1.q,by simp [go_sem],by first | exact hwk.refl _ | exact hwk.app0 _ | simp [hwk.refl],by simp [Y.len],Y.und' _,by first | rfl | simp,by first | rfl | simp [MS.q]⟩
   ·
    try simp -dsimp [go_sem,hN]
    refine cnd (fun _=>?_) (fun k=>by simp at k;omega)
    try simp -dsimp [go_sem,hN]
    refine qd5 10 9 [0,1,2,3,4,5] mixed (by kernel_rfl) ?_;simp -dsimp [go_sem,hN,Y.len,Y.loc,Y.lm',Y.lv'];refine qdn (h2:=K s1.q++[.cells t.x]) (r:=.agg u.c) (hc.mono (by rintro _ _ ⟨rfl,rfl⟩;exact ⟨rfl,rfl⟩)) ?_;simp -dsimp [go_sem,hN,endU,Y.len,Y.loc,Y.lm',Y.lv',Y.sv'];exact ⟨_,.refl _,K (MS.q { s1 with vars:=qbk s1.vars t.name u }),by simp [go_sem],by first | exact hwk.refl _ | exact hwk.app0 _ | simp [hwk.refl],by simp [Y.len],Y.und' _,by first | rfl | simp,by first | rfl | simp [MS.q]⟩
 rw [if_neg h12];have h12':¬ t.op=1∧¬ t.op=2:=by omega
 refine cnd (fun k=>by simp [h12'] at k) (fun _=>?_)
 try simp -dsimp [go_sem,hN,h12'.1,h12'.2]
 refine cnd ?_ ?_<;>intro h3<;>simp at h3
 ·
  simp only [h3,if_true];have ha:=hA (by omega);have hb2:=hB (by omega);have h1:=hI.eval hC (r:=4097) ha;simp -dsimp [go_sem,hN,Y.len,Y.loc];refine qag (qbo hF hC (Y.ext [_] (by simp [hUnder,AObj.under,AV.under,qal])) s t.a ha.1 hI.rng hI.ar (by have:=ha.2;omega)) ?_;rintro r h' ⟨rfl,rfl⟩;rcases hE:evE C t.a s with ⟨z | u,s1⟩
  ·
   simp -dsimp [go_sem,hN,endV,endU];exact ⟨_,.refl _,K s1.q,by simp [go_sem],by first | exact hwk.refl _ | exact hwk.app0 _ | simp [hwk.refl],by simp [Y.len],Y.und' _,by first | rfl | simp,by first | rfl | simp [MS.q]⟩
  rw [hE] at h1;simp only at h1;dsimp only;have hrd1:=h1.1.rd;have hst1:=h1.1.st;simp -dsimp [go_sem,hN,endV,Y.len,Y.loc,Y.loc1];refine qag (qbo hF hC (Y.ext [_,_] (by simp [hUnder,AObj.under,AV.under,qal])) s1 t.b hb2.1 h1.1.rng h1.1.ar (by have:=hb2.2;omega)) ?_;rintro r h' ⟨rfl,rfl⟩;have h2:=h1.1.eval hC (r:=2) hb2;rcases hE2:evE C t.b s1 with ⟨z | w,s2⟩
  ·
   simp -dsimp [go_sem,hN,endV,endU];exact ⟨_,.refl _,K s2.q,by simp [go_sem],by first | exact hwk.refl _ | exact hwk.app0 _ | simp [hwk.refl],by simp [Y.len],Y.und' _,by first | rfl | simp,by first | rfl | simp [MS.q]⟩
  rw [hE2] at h2;simp only at h2;dsimp only;simp -dsimp [go_sem,hN,endV,Y.len,Y.loc,Y.loc1,Y.loc2]
  repeat refine ⟨by grind,?_⟩
  have hpt2:=h2.1.pt;have hst2:=h2.1.st;refine qag (qde (decide (u.k=2)&&(decide (w.k=1)||decide (w.k=2))) _) ?_;rintro r h' ⟨⟨hm,rfl⟩ | ⟨hm,rfl⟩,rfl⟩<;>simp at hm
  rotate_left
  ·
   simp -dsimp [go_sem,hN,endU];rw [if_neg (by rintro ⟨k1,k2⟩;have:=hm k1;omega)];exact ⟨_,.refl _,K s2.q,by simp [go_sem],by first | exact hwk.refl _ | exact hwk.app0 _ | simp [hwk.refl],by simp [Y.len],Y.und' _,by first | rfl | simp,by first | rfl | simp [MS.q]⟩
  rw [if_pos hm];simp -dsimp [go_sem,hN,Y.len,Y.loc,Y.loc1,Y.loc2];refine qag (c_machine_store (Y.ext [_,_,_] (by simp [hUnder,AObj.under,AV.under,qal])) s2 u.s w h2.1.ap (by omega)) ?_;rintro r h' ⟨rfl,rfl⟩;rcases qbi C u.s w s2 with ⟨z | ⟨⟩,s3⟩<;>simp -dsimp [go_sem,hN,endU]<;>exact ⟨_,.refl _,K s3.q,by simp [go_sem],by first | exact hwk.refl _ | exact hwk.app0 _ | simp [hwk.refl],by simp [Y.len],Y.und' _,by first | rfl | simp,by first | rfl | simp [MS.q]⟩
 simp only [h3,if_false];simp -dsimp [go_sem,hN,Y.len,Y.loc];refine cnd ?_ ?_<;>intro h4<;>simp at h4
 ·
  simp only [h4,if_true];have ha:=hA (by omega);have h1:=hI.eval hC (r:=4097) ha;simp -dsimp [go_sem,hN,Y.len,Y.loc];refine qag (qbo hF hC (Y.ext [_] (by simp [hUnder,AObj.under,AV.under,qal])) s t.a ha.1 hI.rng hI.ar (by have:=ha.2;omega)) ?_;rintro r h' ⟨rfl,rfl⟩;rcases hE:evE C t.a s with ⟨z | u,s1⟩
  ·
   simp -dsimp [go_sem,hN,endV,endU];exact ⟨_,.refl _,K s1.q,by simp [go_sem],by first | exact hwk.refl _ | exact hwk.app0 _ | simp [hwk.refl],by simp [Y.len],Y.und' _,by first | rfl | simp,by first | rfl | simp [MS.q]⟩
  rw [hE] at h1;simp only at h1;dsimp only;have hpt1:=h1.1.pt;have hst1:=h1.1.st;simp -dsimp [go_sem,hN,endV,Y.len,Y.loc,Y.loc1];refine qag (qde (decide (u.k=2)) _) ?_;rintro r h' ⟨⟨hm,rfl⟩ | ⟨hm,rfl⟩,rfl⟩<;>simp at hm
  rotate_left
  ·
   simp -dsimp [go_sem,hN,endU,hm];exact ⟨_,.refl _,K s1.q,by simp [go_sem],by first | exact hwk.refl _ | exact hwk.app0 _ | simp [hwk.refl],by simp [Y.len],Y.und' _,by first | rfl | simp,by first | rfl | simp [MS.q]⟩
  simp only [hm,if_true];simp -dsimp [go_sem,hN,Y.len,Y.loc,Y.loc1];refine qag (c_machine_store (Y.ext [_,_] (by simp [hUnder,AObj.under,AV.under,qal])) s1 u.s V.nil h1.1.ap (by omega)) ?_;rintro r h' ⟨rfl,rfl⟩;rcases qbi C u.s V.nil s1 with ⟨z | ⟨⟩,s2⟩<;>simp -dsimp [go_sem,hN,endU]<;>exact ⟨_,.refl _,K s2.q,by simp [go_sem],by first | exact hwk.refl _ | exact hwk.app0 _ | simp [hwk.refl],by simp [Y.len],Y.und' _,by first | rfl | simp,by first | rfl | simp [MS.q]⟩
 simp only [h4,if_false];simp -dsimp [go_sem,hN,Y.len,Y.loc];refine cnd ?_ ?_<;>intro h5<;>simp at h5
 ·
  simp only [h5,if_true];have ha:=hA (by omega);have h1:=hI.eval hC (r:=4097) ha;simp -dsimp [go_sem,hN,Y.len,Y.loc];refine qag (qbo hF hC (Y.ext [_] (by simp [hUnder,AObj.under,AV.under,qal])) s t.a ha.1 hI.rng hI.ar (by have:=ha.2;omega)) ?_;rintro r h' ⟨rfl,rfl⟩;rcases hE:evE C t.a s with ⟨z | u,s1⟩
  ·
   simp -dsimp [go_sem,hN,endV,endU];exact ⟨_,.refl _,K s1.q,by simp [go_sem],by first | exact hwk.refl _ | exact hwk.app0 _ | simp [hwk.refl],by simp [Y.len],Y.und' _,by first | rfl | simp,by first | rfl | simp [MS.q]⟩
  rw [hE] at h1;simp only at h1;dsimp only;simp -dsimp [go_sem,hN,endV,Y.len,Y.loc,Y.loc1];refine qag (qde (decide (u.k=3)) _) ?_;rintro r h' ⟨⟨hm,rfl⟩ | ⟨hm,rfl⟩,rfl⟩<;>simp at hm
  rotate_left
  ·
   simp -dsimp [go_sem,hN,endU,hm];exact ⟨_,.refl _,K s1.q,by simp [go_sem],by first | exact hwk.refl _ | exact hwk.app0 _ | simp [hwk.refl],by simp [Y.len],Y.und' _,by first | rfl | simp,by first | rfl | simp [MS.q]⟩
  simp only [hm,if_true];simp -dsimp [go_sem,hN,Y.len,Y.loc,Y.loc1];refine cnd ?_ ?_<;>intro hx<;>simp at hx
  ·
   simp only [hx,if_true];simp -dsimp [go_sem,hN,Y.len,Y.loc,Y.loc1];refine qag (qd2 hF hC t.body hbody (Y.ext [_,_] (by simp [hUnder,AObj.under,AV.under,qal])) s1 (h1.1.mono (by omega) (by omega))) ?_;rintro r h' ⟨rfl,rfl⟩;rcases qcu C t.body s1 with ⟨z | ⟨⟩,s2⟩<;>simp -dsimp [go_sem,hN,endU]<;>exact ⟨_,.refl _,K s2.q,by simp [go_sem],by first | exact hwk.refl _ | exact hwk.app0 _ | simp [hwk.refl],by simp [Y.len],Y.und' _,by first | rfl | simp,by first | rfl | simp [MS.q]⟩
  ·
   simp only [hx,if_false];simp -dsimp [go_sem,hN,Y.len,Y.loc,Y.loc1];refine qag (qd2 hF hC t.els hels (Y.ext [_,_] (by simp [hUnder,AObj.under,AV.under,qal])) s1 (h1.1.mono (by omega) (by omega))) ?_;rintro r h' ⟨rfl,rfl⟩;rcases qcu C t.els s1 with ⟨z | ⟨⟩,s2⟩<;>simp -dsimp [go_sem,hN,endU]<;>exact ⟨_,.refl _,K s2.q,by simp [go_sem],by first | exact hwk.refl _ | exact hwk.app0 _ | simp [hwk.refl],by simp [Y.len],Y.und' _,by first | rfl | simp,by first | rfl | simp [MS.q]⟩
 simp only [h5,if_false];simp -dsimp [go_sem,hN,Y.len,Y.loc];refine cnd ?_ ?_<;>intro h6<;>simp at h6
 ·
  rw [if_pos h6];simp -dsimp [go_sem,hN,Y.len,Y.loc];refine qag (c_machine_loop hF hC (Y.ext [_] (by simp [hUnder,AObj.under,AV.under,qal])) t h6 hG s hI (fun Y' s' hI'=>qd2 hF hC t.body hbody Y' s' hI')) ?_;rintro r h' ⟨rfl,rfl⟩;rcases stI C t s with ⟨z | ⟨⟩,s2⟩<;>simp -dsimp [go_sem,hN,endU]<;>exact ⟨_,.refl _,K s2.q,by simp [go_sem],by first | exact hwk.refl _ | exact hwk.app0 _ | simp [hwk.refl],by simp [Y.len],Y.und' _,by first | rfl | simp,by first | rfl | simp [MS.q]⟩
 simp only [h6,if_false];simp -dsimp [go_sem,hN,Y.len,Y.loc];refine cnd ?_ ?_<;>intro h7<;>simp at h7
 ·
  simp only [h7,if_true];have ha:=hA (by omega);have h1:=hI.eval hC (r:=4097) ha;simp -dsimp [go_sem,hN,Y.len,Y.loc];refine qag (qbo hF hC (Y.ext [_] (by simp [hUnder,AObj.under,AV.under,qal])) s t.a ha.1 hI.rng hI.ar (by have:=ha.2;omega)) ?_;rintro r h' ⟨rfl,rfl⟩;rcases hE:evE C t.a s with ⟨z | u,s1⟩
  ·
   simp -dsimp [go_sem,hN,endV,endU];exact ⟨_,.refl _,K s1.q,by simp [go_sem],by first | exact hwk.refl _ | exact hwk.app0 _ | simp [hwk.refl],by simp [Y.len],Y.und' _,by first | rfl | simp,by first | rfl | simp [MS.q]⟩
  rw [hE] at h1;simp only at h1;dsimp only;have hot:=h1.1.ot;simp -dsimp [go_sem,hN,endV,Y.len,Y.loc,Y.loc1]
  repeat refine ⟨by grind,?_⟩
  refine qag (qde (decide (u.k=1)||decide (u.k=2)) _) ?_;rintro r h' ⟨⟨hm,rfl⟩ | ⟨hm,rfl⟩,rfl⟩<;>simp at hm
  rotate_left
  ·
   simp -dsimp [go_sem,hN,endU,hm];exact ⟨_,.refl _,K s1.q,by simp [go_sem],by first | exact hwk.refl _ | exact hwk.app0 _ | simp [hwk.refl],by simp [Y.len],Y.und' _,by first | rfl | simp,by first | rfl | simp [MS.q]⟩
  simp only [hm,if_true];simp -dsimp [go_sem,hN,Y.len,Y.loc,Y.loc1];refine qag (c_machine_emit (Y.ext [_,_] (by simp [hUnder,AObj.under,AV.under,qal])) s1 u (by omega)) ?_;rintro r h' ⟨rfl,rfl⟩;rcases emitS u s1 with ⟨z | ⟨⟩,s2⟩<;>simp -dsimp [go_sem,hN,endU]<;>exact ⟨_,.refl _,K s2.q,by simp [go_sem],by first | exact hwk.refl _ | exact hwk.app0 _ | simp [hwk.refl],by simp [Y.len],Y.und' _,by first | rfl | simp,by first | rfl | simp [MS.q]⟩
 simp only [h7,if_false];simp -dsimp [go_sem,hN,Y.len,Y.loc];refine cnd ?_ ?_<;>intro h8<;>simp at h8
 ·
  simp only [h8,if_true];simp -dsimp [go_sem,hN,Y.len,Y.loc];refine qag (qa2 t.max _) ?_;rintro r h' ⟨rfl,rfl⟩;simp -dsimp [go_sem,hN,endU];exact ⟨_,.refl _,K s.q,by simp [go_sem],by first | exact hwk.refl _ | exact hwk.app0 _ | simp [hwk.refl],by simp [Y.len],Y.und' _,by first | rfl | simp,by first | rfl | simp [MS.q]⟩
 ·
  simp only [h8,if_false];simp -dsimp [go_sem,hN,endU];exact ⟨_,.refl _,K s.q,by simp [go_sem],by first | exact hwk.refl _ | exact hwk.app0 _ | simp [hwk.refl],by simp [Y.len],Y.und' _,by first | rfl | simp,by first | rfl | simp [MS.q]⟩
termination_by (SizeOf.sizeOf t,0)
end
end Go.Proofs.YtilhejdbiionhaaGreatDoor

set_option maxRecDepth 4000
set_option maxHeartbeats 1000000
namespace Go.Proofs.YtilhejdbiionhaaGreatDoor
open Go Go.Abs Go.Cw
theorem c_interp_wrong (h:qaa):ACalls Tryz.prog 40 [] h fun r h'=>r=.ret (.agg wrongE.c)∧h'=h:=by
 refine qav Tryz.func40 Tryz.ntmps40 rfl (by kernel_rfl) rfl fun E hN hh hu hb hb' hua=>?_;simp -dsimp [go_sem,hN];exact ⟨_,.refl _,h,by simp [go_sem],by simp [go_sem],by simp,by simp [hu,go_sem],rfl,rfl⟩
theorem c_interp_newMachine (st:List Pr) (ft:Foot) (h:qaa):ACalls Tryz.prog 41 [.slice (st.map Pr.c),.agg ft.c] h fun r h'=>r=.ret (.ptr (h.length+3) 0) ∧
  h'=h++[.cells ft.c,.map [],.map [],.cells [.slice (st.map Pr.c),Bo ft.all,.slice (ft.reads.map qaz),.slice (ft.writes.map qaz),.mapr (h.length+1),.mapr (h.length+2),I 0,I 0,.nils,.nils,.nils,.nils,S em,I 0]]:=by
 refine qav Tryz.func41 Tryz.ntmps41 rfl (by kernel_rfl) rfl fun E hN hh hu hb hb' hua=>?_;simp -dsimp [go_sem,hN];refine ⟨by simp [liftK,liftC],_,.refl _,_,?_,hwk.refl _,by simp,?_,rfl,by rfl⟩
 · simp [go_sem]
 · simp [hu,qam hu,qap,go_sem]
end Go.Proofs.YtilhejdbiionhaaGreatDoor

set_option maxRecDepth 4000
namespace Go.Proofs.YtilhejdbiionhaaGreatDoor
open Go Go.Abs Go.Cw
variable {c a b d:Nat} {H:TS→qaa} {n0:Nat}
theorem c_checker_declare (T:TH c a b d H n0) (s:TS) (name:qab) (ty:Int) :
  ACalls Tryz.prog 142 [.ptr c 0,S name,I ty] (H s) fun r h'=>r=.ret (.tuple [])∧h'=H (s.decl name ty):=by
 refine qav Tryz.func142 Tryz.ntmps142 rfl (by kernel_rfl) rfl fun E hN hh hu hb hb' hua=>?_;simp -dsimp [go_sem,hN,T.lc,T.la,T.ld,T.sa,T.sd];exact ⟨_,.refl _,H (s.decl name ty),rfl,by simp [TS.decl],by simp [T.len],T.und' _,rfl,rfl⟩
theorem c_checker_operands (T:TH c a b d H n0) (s:TS) (t:St) (hA:t.op≠8→chkE t.a 1=0) (hB:t.op=3∨t.op=6→chkE t.b 1=0) :
  ACalls Tryz.prog 238 [.ptr c 0,.agg t.x] (H s) fun r h'=>r=.ret (.tuple [I (opsT s.visible t).1,I (opsT s.visible t).2.1,I (opsT s.visible t).2.2])∧h'=H s:=by
 refine qav Tryz.func238 Tryz.ntmps238 rfl (by kernel_rfl) rfl fun E hN hh hu hb hb' hua=>?_;simp -dsimp [go_sem,hN];refine cnd ?_ ?_<;>intro h0<;>simp at h0
 ·
  simp -dsimp [go_sem,hN];rw [opsT,if_pos h0];exact ⟨_,.refl _,H s,rfl,by simp,by simp,hu,rfl,rfl⟩
 simp -dsimp [go_sem,hN];refine qd5 11 6 [] mixed (by kernel_rfl) ?_;simp -dsimp [go_sem,hN,T.lc',T.la'];refine qdn (c_types_of s.visible t.a 1 (hA h0) _ a (T.la' s _)) ?_;simp -dsimp [go_sem,hN];refine ⟨by grind,?_⟩;refine cnd ?_ ?_<;>intro h1<;>simp at h1
 ·
  simp -dsimp [go_sem,hN];refine qd5 11 6 [] mixed (by kernel_rfl) ?_;simp -dsimp [go_sem,hN,T.lc',T.la'];refine qdn (c_types_of s.visible t.b 1 (hB h1.2) _ a (T.la' s _)) ?_;simp -dsimp [go_sem,hN];rw [opsT,if_neg h0,if_pos h1];exact ⟨_,.refl _,H s,rfl,by simp,by simp,hu,rfl,rfl⟩
 ·
  simp -dsimp [go_sem,hN];rw [opsT,if_neg h0,if_neg (by rintro ⟨h2,h3⟩;have:=h1 h2;omega)];exact ⟨_,.refl _,H s,rfl,by simp,by simp,hu,rfl,rfl⟩
set_option maxHeartbeats 4000000 in
mutual
theorem qd3 {H:TS→qaa} {n0:Nat} (T:TH c a b d H n0) (s:TS) (l:List St) (dp:Nat) (hl:okL l dp) :
  ACalls Tryz.prog 143 [.ptr c 0,.slice (l.map St.c)] (H s) fun r h'=>r=.ret (I (blkT l s).1)∧h'=H (blkT l s).2:=by
 refine qav Tryz.func143 Tryz.ntmps143 rfl (by kernel_rfl) rfl fun E hN hh hu hb hb' hua=>?_;simp [go_sem] at hb;simp -dsimp [go_sem,hN];refine qa0 (α:=TS) l.length (fun n x=>qc9 (l.drop n) x=qc9 l s) (fun n x=>⟨[(0,.ptr c 0),(1,.slice (l.map St.c)),(10,.slice (l.map St.c)),(11,I l.length),(12,I n)],H x⟩) s (by simp) (Wk.mk (by simp [hh,T.len]) (by simp [go_sem]) (T.und' _) (by have:=T.hc;simp [go_sem,T.len];omega)) ?_;intro n x hn hI;have hw:=qbn hn hb.1;simp -dsimp [go_sem,hN];refine cnd ?_ ?_<;>intro hc<;>simp at hc
 ·
  rw [qaj hc,qc9] at hI;have hlt:SizeOf.sizeOf l[n]<SizeOf.sizeOf l:=List.sizeOf_lt_of_mem (List.getElem_mem hc);simp -dsimp [go_sem,hN,hc];refine qag (c_checker_statement (T.ext [.cells l[n].x] (by simp [go_sem])) x l[n] dp (hl _ (List.getElem_mem hc))) ?_;rintro r h' ⟨rfl,rfl⟩;simp -dsimp [go_sem,hN];refine cnd ?_ ?_<;>intro h1<;>simp at h1
  ·
   rw [if_pos h1] at hI;simp -dsimp [go_sem,hN];rw [blkT,qcm,← hI,if_pos h1];exact ⟨_,.refl _,H (stT l[n] x).2,rfl,by simp,by simp [T.len],T.und' _,rfl,rfl⟩
  ·
   rw [if_neg (by simpa using h1)] at hI;simp -dsimp [go_sem,hN,hw];exact ⟨hc,_,hI,Wk.mk (by simp [hh,T.len]) (by simp [go_sem]) (T.und' _) (by have:=T.hc;simp [go_sem,T.len];omega)⟩
 rw [List.drop_eq_nil_of_le (by omega),qc9] at hI;simp -dsimp [go_sem,hN];refine qa0 (α:=List (qab×Int)) l.length (fun n v=>qdc (l.drop n) v=qdc l x.visible) (fun n v=>⟨[(0,.ptr c 0),(23,.slice (l.map St.c)),(24,I l.length),(25,I n)],H ⟨v,x.loops,x.all⟩⟩) x.visible (by simp) (Wk.mk (by simp [hh,T.len]) (by simp [go_sem]) (T.und' _) (by have:=T.hc;simp [go_sem,T.len];omega)) ?_;intro n v hn hJ;have hw:=qbn hn hb.1;simp -dsimp [go_sem,hN];refine cnd ?_ ?_<;>intro hc<;>simp at hc
 ·
  rw [qaj hc,qdc] at hJ;simp -dsimp [go_sem,hN,hc];refine cnd ?_ ?_<;>intro h1<;>simp at h1
  ·
   rw [if_pos h1] at hJ;simp -dsimp [go_sem,hN];refine qak 6 mixed (by kernel_rfl) (by kernel_rfl) ?_;simp -dsimp [go_sem,hN,T.lc',T.la',T.sa',hw];exact ⟨hc,_,hJ,Wk.mk (by simp [hh,T.len]) (by simp [go_sem]) (T.und' _) (by have:=T.hc;simp [go_sem,T.len];omega)⟩
  ·
   rw [if_neg h1] at hJ;simp -dsimp [go_sem,hN,hw];exact ⟨hc,_,hJ,Wk.mk (by simp [hh,T.len]) (by simp [go_sem]) (T.und' _) (by have:=T.hc;simp [go_sem,T.len];omega)⟩
 ·
  rw [List.drop_eq_nil_of_le (by omega),qdc] at hJ;simp -dsimp [go_sem,hN];rw [blkT,qcm,← hI,if_neg (by simp),hJ];exact ⟨_,.refl _,H ⟨qdc l x.visible,x.loops,x.all⟩,rfl,by simp,by simp [T.len],T.und' _,rfl,rfl⟩
termination_by SizeOf.sizeOf l
theorem c_checker_statement {H:TS→qaa} {n0:Nat} (T:TH c a b d H n0) (s:TS) (t:St) (dp:Nat) (ht:okS t dp) :
  ACalls Tryz.prog 195 [.ptr c 0,.agg t.x] (H s) fun r h'=>r=.ret (I (stT t s).1)∧h'=H (stT t s).2:=by
 refine qav Tryz.func195 Tryz.ntmps195 rfl (by kernel_rfl) rfl fun E hN hh hu hb hb' hua=>?_;simp -dsimp [go_sem,hN];refine qag (c_checker_operands (T.ext [.cells t.x] (by simp [go_sem])) s t ?_ ?_) ?_
 · exact fun h0=>okS_a ht h0
 · exact fun h0=>okS_b ht h0
 rintro r h' ⟨rfl,rfl⟩;have hbody:=((qdk t dp).1 ht).2.1;have hels:=((qdk t dp).1 ht).2.2;have lt1:=St.body_le t;have lt2:=St.els_le t;have lb0:∀ (s:TS) (l:qaa),(H s++l).length=n0+l.length:=fun s l=>by rw [List.length_append,T.len]
 rw [stT_eq,stStep];simp -dsimp [go_sem,hN];refine cnd ?_ ?_<;>intro h1<;>simp at h1
 ·
  rw [if_pos h1];simp -dsimp [go_sem,hN];exact ⟨_,.refl _,H s,rfl,by simp,by simp,hu,rfl,rfl⟩
 rw [if_neg (by simpa using h1)];simp -dsimp [go_sem,hN];refine cnd ?_ ?_<;>intro h2<;>simp at h2
 ·
  rw [if_pos h2];simp -dsimp [go_sem,hN];refine qag (c_checker_declare (T.ext [.cells t.x] (by simp [go_sem])) s t.name _) ?_;rintro r h' ⟨rfl,rfl⟩;simp -dsimp [go_sem,hN];exact ⟨_,.refl _,H (s.decl t.name (opsT s.visible t).1),rfl,by simp,by simp [T.len],T.und' _,by first | rfl | grind | simp [*],by first | rfl | grind | simp [*]⟩
 rw [if_neg h2];simp -dsimp [go_sem,hN];refine cnd ?_ ?_<;>intro h3<;>simp at h3
 ·
  rw [if_pos h3];simp -dsimp [go_sem,hN];refine qak 11 mixed (by kernel_rfl) (by kernel_rfl) ?_;rcases hk:qa7 s.visible t.name with _ | ty
  ·
   simp -dsimp [go_sem,hN,T.lc',T.la',hk];exact ⟨_,.refl _,H s,rfl,by simp,by simp [T.len],T.und' _,by first | rfl | grind | simp [*],by first | rfl | grind | simp [*]⟩
  ·
   simp -dsimp [go_sem,hN,T.lc',T.la',hk];refine qak 6 mixed (by kernel_rfl) (by kernel_rfl) ?_;rcases hl:qa7 s.loops t.name with _ | bo
   ·
    simp -dsimp [go_sem,hN,T.lc',T.lb',hl];refine cnd ?_ ?_<;>intro h4<;>simp at h4
    ·
     simp -dsimp [go_sem,hN];exact ⟨_,.refl _,H s,rfl,by simp,by simp [T.len],T.und' _,by first | rfl | grind | simp [*],by first | rfl | grind | simp [*]⟩
    ·
     simp -dsimp [go_sem,hN];exact ⟨_,.refl _,H s,rfl,by simp,by simp [T.len],T.und' _,by first | rfl | grind | simp [*],by first | rfl | grind | simp [*]⟩
   ·
    simp -dsimp [go_sem,hN,T.lc',T.lb',hl];refine cnd (fun h4=>?_) (fun h4=>?_)
    ·
     simp -dsimp [go_sem,hN];exact ⟨_,.refl _,H s,rfl,by simp,by simp [T.len],T.und' _,by first | rfl | grind | simp [*],by first | rfl | grind | simp [*]⟩
    ·
     simp -dsimp [go_sem,hN];refine cnd ?_ ?_<;>intro h5<;>simp at h5
     ·
      simp -dsimp [go_sem,hN];exact ⟨_,.refl _,H s,rfl,by simp,by simp [T.len],T.und' _,by first | rfl | grind | simp [*],by first | rfl | grind | simp [*]⟩
     ·
      simp -dsimp [go_sem,hN];exact ⟨_,.refl _,H s,rfl,by simp,by simp [T.len],T.und' _,by first | rfl | grind | simp [*],by first | rfl | grind | simp [*]⟩
 rw [if_neg h3];simp -dsimp [go_sem,hN];refine cnd ?_ ?_<;>intro h4<;>simp at h4
 ·
  rw [if_pos h4];simp -dsimp [go_sem,hN]
  repeat refine ⟨by grind,?_⟩
  refine cnd ?_ ?_<;>intro h5<;>simp at h5
  ·
   simp -dsimp [go_sem,hN];exact ⟨_,.refl _,H s,rfl,by simp,by simp [T.len],T.und' _,by first | rfl | grind | simp [*],by first | rfl | grind | simp [*]⟩
  ·
   simp -dsimp [go_sem,hN];exact ⟨_,.refl _,H s,rfl,by simp,by simp [T.len],T.und' _,by first | rfl | grind | simp [*],by first | rfl | grind | simp [*]⟩
 rw [if_neg h4];simp -dsimp [go_sem,hN];refine cnd ?_ ?_<;>intro h5<;>simp at h5
 ·
  rw [if_pos h5];simp -dsimp [go_sem,hN];refine cnd ?_ ?_<;>intro h6<;>simp at h6
  ·
   simp -dsimp [go_sem,hN];exact ⟨_,.refl _,H s,rfl,by simp,by simp [T.len],T.und' _,by first | rfl | grind | simp [*],by first | rfl | grind | simp [*]⟩
  ·
   simp -dsimp [go_sem,hN];exact ⟨_,.refl _,H s,rfl,by simp,by simp [T.len],T.und' _,by first | rfl | grind | simp [*],by first | rfl | grind | simp [*]⟩
 rw [if_neg h5];simp -dsimp [go_sem,hN];refine cnd ?_ ?_<;>intro h6<;>simp at h6
 ·
  rw [if_pos h6];simp -dsimp [go_sem,hN];refine cnd ?_ ?_<;>intro h7<;>simp at h7
  ·
   simp -dsimp [go_sem,hN];exact ⟨_,.refl _,H s,rfl,by simp,by simp [T.len],T.und' _,by first | rfl | grind | simp [*],by first | rfl | grind | simp [*]⟩
  ·
   simp -dsimp [go_sem,hN];exact ⟨_,.refl _,H s,rfl,by simp,by simp [T.len],T.und' _,by first | rfl | grind | simp [*],by first | rfl | grind | simp [*]⟩
 rw [if_neg h6];simp -dsimp [go_sem,hN];refine cnd ?_ ?_<;>intro h7<;>simp at h7
 ·
  rw [if_pos h7];simp -dsimp [go_sem,hN];refine cnd ?_ ?_<;>intro h8<;>simp at h8
  ·
   simp -dsimp [go_sem,hN];exact ⟨_,.refl _,H s,rfl,by simp,by simp [T.len],T.und' _,by first | rfl | grind | simp [*],by first | rfl | grind | simp [*]⟩
  rw [if_neg (by simpa using h8)];simp -dsimp [go_sem,hN];refine qag (qd3 (T.ext [.cells t.x] (by simp [go_sem])) s t.body (dp+1) hbody) ?_;rintro r h' ⟨rfl,rfl⟩;simp -dsimp [go_sem,hN];refine cnd ?_ ?_<;>intro h9<;>simp at h9
  ·
   simp -dsimp [go_sem,hN];exact ⟨_,.refl _,H (blkT t.body s).2,rfl,by simp,by simp [T.len],T.und' _,by first | rfl | grind | simp [*],by first | rfl | grind | simp [*]⟩
  rw [if_neg (by simpa using h9)];simp -dsimp [go_sem,hN,lb0,T.len];refine qag (qd3 (T.ext [.cells t.x] (by simp [go_sem])) (blkT t.body s).2 t.els (dp+1) hels) ?_;rintro r h' ⟨rfl,rfl⟩;simp -dsimp [go_sem,hN];exact ⟨_,.refl _,H (blkT t.els (blkT t.body s).2).2,rfl,by simp,by simp [T.len],T.und' _,by first | rfl | grind | simp [*],by first | rfl | grind | simp [*]⟩
 rw [if_neg h7];simp -dsimp [go_sem,hN];refine cnd ?_ ?_<;>intro h8<;>simp at h8
 ·
  rw [if_pos h8];simp -dsimp [go_sem,hN]
  repeat refine ⟨by grind,?_⟩
  refine cnd ?_ ?_<;>intro h9<;>simp at h9
  ·
   simp -dsimp [go_sem,hN];exact ⟨_,.refl _,H s,rfl,by simp,by simp [T.len],T.und' _,by first | rfl | grind | simp [*],by first | rfl | grind | simp [*]⟩
  rw [if_neg (by grind)];simp -dsimp [go_sem,hN];refine qag (c_checker_declare (T.ext [.cells t.x] (by simp [go_sem])) s t.name 1) ?_;rintro r h' ⟨rfl,rfl⟩;simp -dsimp [go_sem,hN];refine qak 6 mixed (by kernel_rfl) (by kernel_rfl) ?_;simp -dsimp [go_sem,hN,T.lc',T.lb',T.sb',T.len];refine qag (qd3 (T.ext [.cells t.x] (by simp [go_sem])) ⟨qbk s.visible t.name 1,qbk s.loops t.name true,qbk s.all t.name 1⟩ t.body (dp+1) hbody) ?_;rintro r h' ⟨rfl,rfl⟩;simp -dsimp [go_sem,hN];refine qak 6 mixed (by kernel_rfl) (by kernel_rfl) ?_;simp -dsimp [go_sem,hN,T.lc',T.la',T.sa',T.len];exact ⟨_,.refl _,H ⟨kDel (blkT t.body ⟨qbk s.visible t.name 1,qbk s.loops t.name true,qbk s.all t.name 1⟩).2.visible t.name,(blkT t.body ⟨qbk s.visible t.name 1,qbk s.loops t.name true,qbk s.all t.name 1⟩).2.loops,(blkT t.body ⟨qbk s.visible t.name 1,qbk s.loops t.name true,qbk s.all t.name 1⟩).2.all⟩,rfl,by simp,by simp [T.len],T.und' _,by first | rfl | grind | simp [*],by first | rfl | grind | simp [*]⟩
 rw [if_neg h8];simp -dsimp [go_sem,hN];exact ⟨_,.refl _,H s,rfl,by simp,by simp [T.len],T.und' _,by first | rfl | grind | simp [*],by first | rfl | grind | simp [*]⟩
termination_by SizeOf.sizeOf t
end
end Go.Proofs.YtilhejdbiionhaaGreatDoor

set_option maxRecDepth 4000
namespace Go.Proofs.YtilhejdbiionhaaGreatDoor
open Go Go.Abs Go.Cw
def chkH (h:qaa) (p:Proc) (s:TS):qaa:=h++[.cells p.c,.map (kAV I s.visible),.map (kAV Bo s.loops),.map (kAV I s.all),.cells [.mapr (h.length+1),.mapr (h.length+2),.mapr (h.length+3)]]
theorem chkTH (h:qaa) (hu:hUnder h.length h=true) (p:Proc):TH (h.length+4) (h.length+1) (h.length+2) (h.length+3) (chkH h p) (h.length+5) where
 len:=fun s=>by simp [chkH]
 hc:=by omega
 ha:=by omega
 hb:=by omega
 hd:=by omega
 lc:=fun s=>by simp [chkH]
 la:=fun s=>by simp [chkH]
 lb:=fun s=>by simp [chkH]
 ld:=fun s=>by simp [chkH]
 sa:=fun s v=>by simp [chkH]
 sb:=fun s v=>by simp [chkH]
 sd:=fun s v=>by simp [chkH]
 und:=fun s=>by
  rw [chkH,qam hu];have k1:∀ n l,(AObj.map (kAV I l)).under n=true:=kAV_und (fun _ _=>rfl);have k2:∀ n l,(AObj.map (kAV Bo l)).under n=true:=kAV_und (fun _ _=>rfl);simp only [hUnder,k1,k2,Bool.and_true,Bool.true_and];simp [go_sem]
set_option maxHeartbeats 2000000 in
theorem c_types_check (p:Proc) (h:qaa):ACalls Tryz.prog 86 [.agg p.c] h fun r h'=>r=.ret (.tuple [.top,I (typeErr p)])∧h'=h:=by
 refine qav Tryz.func86 Tryz.ntmps86 rfl (by kernel_rfl) rfl fun E hN hh hu hb hb' hua=>?_;simp [go_sem] at hb;have T:=chkTH h hu p;simp -dsimp [go_sem,hN];refine qac (c_ast_Validate p) ?_;simp -dsimp [go_sem,hN];refine cnd ?_ ?_<;>intro h0<;>simp at h0
 ·
  simp -dsimp [go_sem,hN];refine ⟨.tuple [.top,_],.tuple ⟨.top _,.refl _,trivial⟩,h,?_⟩;rw [typeErr,if_pos h0];simp [go_sem,hu]
 have hlen:p.params.length≤6:=by
  unfold validP at h0;split at h0
  · contradiction
  split at h0
  · contradiction
  rename_i h1;simp only [Decidable.not_not] at h1;unfold paramsE at h1;split at h1
  · contradiction
  · omega
 simp -dsimp [go_sem,hN];refine qa0 (α:=TS) p.params.length (fun n x=>declP (p.params.drop n) x=declP p.params ⟨[],[],[]⟩∧(p.params.drop n).any (fun x=>decide (x.ty=3))=p.params.any (fun x=>decide (x.ty=3))) (fun n x=>⟨[(1,.ptr h.length 0),(5,.ptr (h.length+4) 0),(23,.slice (p.params.map Param.c)),(24,I p.params.length),(25,I n)],chkH h p x⟩) ⟨[],[],[]⟩ (by simp) (Wk.mk (by simp [hh,T.len]) (by simp [go_sem,chkH,kAV,qby]) (T.und' _) (by simp [go_sem,T.len])) ?_;intro n x hn ⟨hI,hJ⟩;have hw:=qbn hn hb.2.1.1;simp -dsimp [go_sem,hN];refine cnd ?_ ?_<;>intro hc<;>simp at hc
 ·
  rw [qaj hc] at hI hJ;rw [List.any_cons] at hJ;rw [declP,List.foldl_cons] at hI;simp -dsimp [go_sem,hN,hc];refine cnd ?_ ?_<;>intro h1<;>simp at h1
  ·
   simp -dsimp [go_sem,hN];refine ⟨.tuple [.top,_],.tuple ⟨.top _,.refl _,trivial⟩,h,?_⟩;rw [typeErr,if_neg (by simpa using h0),if_pos (by rw [← hJ];simp [h1])];simp [go_sem,hu,chkH,hwk.app0]
  simp -dsimp [go_sem,hN];refine qag (c_checker_declare (T.ext [.cells p.params[n].c] (by simp [go_sem])) x p.params[n].name p.params[n].ty) ?_;rintro r h' ⟨rfl,rfl⟩;simp -dsimp [go_sem,hN,hw];exact ⟨hc,_,⟨hI,by rw [← hJ];simp [h1]⟩,Wk.mk (by simp [hh,T.len]) (by simp [go_sem]) (T.und' _) (by simp [go_sem,T.len])⟩
 rw [List.drop_eq_nil_of_le (by omega)] at hI hJ;have x0:∀ (x:TS) (l:qaa),(chkH h p x++l)[h.length]?=some (.cells p.c):=fun x l=>by simp [chkH]
 have x1:∀ (x:TS) (o:AObj) (l:qaa),(chkH h p x++o::l)[h.length+5]?=some o:=fun x o l=>by
  rw [List.getElem?_append_right (by rw [T.len];omega),T.len,Nat.sub_self];rfl
 have x2:∀ (x:TS) (o o':AObj) (l:qaa),(chkH h p x++o::l).set (h.length+5) o'=chkH h p x++o'::l:=fun x o o' l=>by
  rw [List.set_append_right _ _ (by rw [T.len];omega),T.len,Nat.sub_self];rfl
 have k2:∀ n l,(AObj.map (kAV Bo l)).under n=true:=kAV_und (fun _ _=>rfl);have xu:∀ (x:TS) (m:List (qab×Bool)),hUnder (chkH h p x++[AObj.map (kAV Bo m)]).length (chkH h p x++[AObj.map (kAV Bo m)])=true:=fun x m=>by
  rw [List.length_append,qam (T.und' x)];simp only [hUnder,k2,Bool.and_true]
 simp -dsimp [go_sem,hN,x0];refine qac (c_ast_Names p (by omega)) ?_;simp -dsimp [go_sem,hN];refine qa0 (α:=List (qab×Bool)) (namesP p).length (fun n m=>dupM m ((namesP p).drop n)=dupM [] (namesP p)) (fun n m=>⟨[(1,.ptr h.length 0),(5,.ptr (h.length+4) 0),(8,.mapr (h.length+5)),(41,.slice ((namesP p).map qaz)),(42,I (namesP p).length),(43,I n)],chkH h p x++[AObj.map (kAV Bo m)]⟩) [] (by simp) (Wk.mk (by simp [hh,T.len];omega) (by simp [go_sem,T.len,kAV,qby]) (xu _ _) (by simp [go_sem,T.len];try omega)) ?_;intro n m hn hM;have hnl:(namesP p).length≤407:=by
  have:=blkW_K nameS qc1 List.length nameS_len (fun s _=>by simp [qc1]) p.body 1 (401,p.params.map (·.name))
  simp only [List.length_map] at this;unfold namesP;omega
 have hw:=qbn hn (by omega);simp -dsimp [go_sem,hN];refine cnd ?_ ?_<;>intro hc<;>simp at hc
 ·
  rw [qaj hc,dupM] at hM;rcases hk:qa7 m (namesP p)[n] with _ | bo
  ·
   rw [hk] at hM;simp -dsimp [go_sem,hN,hc,x1,x2,hk,qaz,hw];exact ⟨_,hM,Wk.mk (by simp [hh,T.len];omega) (by simp [go_sem,T.len]) (xu _ _) (by simp [go_sem,T.len])⟩
  ·
   rw [hk] at hM;simp -dsimp [go_sem,hN,hc,x1,x2,hk,qaz,hw];refine cnd (fun h1=>?_) (fun h1=>?_)
   ·
    simp -dsimp [go_sem,hN];refine ⟨.tuple [.top,_],.tuple ⟨.top _,.refl _,trivial⟩,h,?_⟩;rw [typeErr,if_neg (by simpa using h0),if_neg (by rw [← hJ];simp),if_pos (by rw [← hM];simp [h1])];simp [go_sem,hu,chkH,hwk.app0]
   ·
    simp -dsimp [go_sem,hN,x1,x2,hw];subst h1;exact ⟨hc,_,hM,Wk.mk (by simp [hh,T.len];omega) (by simp [go_sem,T.len]) (xu _ _) (by simp [go_sem,T.len])⟩
 rw [List.drop_eq_nil_of_le (by omega),dupM] at hM;have y0:∀ (x:TS) (l:qaa),(chkH h p x++l)[h.length+4]?=some (.cells [.mapr (h.length+1),.mapr (h.length+2),.mapr (h.length+3)]):=fun x l=>T.lc' x l;simp -dsimp [go_sem,hN,x0];refine qag (qd3 (T.ext [AObj.map (kAV Bo m)] (by simp only [hUnder,k2,Bool.and_true])) x p.body 1 (validP_ok h0)) ?_;rintro r h' ⟨rfl,rfl⟩;simp -dsimp [go_sem,hN,y0];refine ⟨.tuple [.top,_],.tuple ⟨.top _,.refl _,trivial⟩,h,?_⟩;rw [typeErr,if_neg (by simpa using h0),if_neg (by rw [← hJ];simp),if_neg (by rw [← hM];simp),← hI];simp [go_sem,hu,chkH,hwk.app0,declP]
theorem c_types_Check (p:Proc):APure Tryz.prog 57 [.agg p.c] (I (typeErr p)):=by
 refine qay Tryz.func57 Tryz.ntmps57 rfl (by kernel_rfl) rfl rfl fun E h hN hh hu hb=>?_;simp -dsimp [go_sem,hN];refine qag (c_types_check p _) ?_;rintro r h' ⟨rfl,rfl⟩;simp -dsimp [go_sem,hN]
theorem c_types_Args (p:Proc) (l:List V):APure Tryz.prog 38 [.agg p.c,.slice (l.map V.c)] (I (qcq p l)):=by
 refine qay Tryz.func38 Tryz.ntmps38 rfl (by kernel_rfl) rfl rfl fun E h hN hh hu hb=>?_;simp [go_sem] at hb;simp -dsimp [go_sem,hN];refine qac (c_types_Check p) ?_;simp -dsimp [go_sem,hN];refine cnd ?_ ?_<;>intro h0<;>simp at h0
 ·
  simp -dsimp [go_sem,hN];rw [qcq,if_pos (by by_cases h1:typeErr p=0<;>grind)]
 rw [qcq,if_neg (by have:=h0.2;have:=h0.1;omega)];have hle:l.length=p.params.length:=by have:=h0.2;omega
 simp -dsimp [go_sem,hN];refine qat l.length (fun n=>argsOk (p.params.drop n) (l.drop n)=argsOk p.params l) (fun n=>⟨[(2,.ptr h.length 0),(20,.slice (l.map V.c)),(21,I l.length),(22,I n)],h++[.cells p.c]⟩) (by simp) wkA ?_;intro n hn hI;have hw:=qbn hn hb.2.1;simp -dsimp [go_sem,hN];refine cnd ?_ ?_<;>intro hc<;>simp at hc
 ·
  have hc':n<p.params.length:=by omega
  rw [qaj hc,qaj hc',argsOk] at hI;simp -dsimp [go_sem,hN,hc,hc'];refine qah (c_types_plain l[n].s) (by simp) ?_;simp -dsimp [go_sem,hN,hc']
  repeat refine ⟨by grind,?_⟩
  refine cnd (fun h1=>?_) (fun h1=>?_)
  ·
   simp -dsimp [go_sem,hN];rw [← hI];unfold argOk;simp at h1;grind
  ·
   simp -dsimp [go_sem,hN,hw];refine ⟨hc,by rw [← hI];unfold argOk;simp at h1;grind,wkA⟩
 ·
  rw [List.drop_eq_nil_of_le (by omega),List.drop_eq_nil_of_le (by omega)] at hI;simp -dsimp [go_sem,hN];exact hI.symm.trans (by simp [argsOk])
end Go.Proofs.YtilhejdbiionhaaGreatDoor
