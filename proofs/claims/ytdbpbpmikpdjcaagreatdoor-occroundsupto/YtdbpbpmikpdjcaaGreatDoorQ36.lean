/- Part 36 of a proof: W26, W27, W14 -/
import Derived.Shelf.Small.Strs
import Derived.Shelf.Strconv.Itoa4
import Derived.Lib.ItoaLen
import Derived.Test.YtdbpbpmikpdjcaaGreatDoorQ13
import Derived.Test.YtdbpbpmikpdjcaaGreatDoorQ14
import Derived.Test.YtdbpbpmikpdjcaaGreatDoorQ15
import Derived.Test.YtdbpbpmikpdjcaaGreatDoorQ19
import Derived.Test.YtdbpbpmikpdjcaaGreatDoorQ20
import Derived.Test.YtdbpbpmikpdjcaaGreatDoorQ21
import Derived.Test.YtdbpbpmikpdjcaaGreatDoorQ25
import Derived.Test.YtdbpbpmikpdjcaaGreatDoorQ30
import Derived.Test.YtdbpbpmikpdjcaaGreatDoorQ33
import Derived.Test.YtdbpbpmikpdjcaaGreatDoorQ34
import Derived.Test.YtdbpbpmikpdjcaaGreatDoorQ35
set_option linter.all false

set_option maxRecDepth 4000
set_option maxHeartbeats 1000000
namespace Go.Proofs.YtdbpbpmikpdjcaaGreatDoor
open Go Go.Abs Go.Cw
attribute [local go_sem] mC
variable {C:Cfg} {tT:TypeId} {tx:Nat×Nat} {g m v o io ir ip:Nat}
mutual
theorem qec (hF:C.fmt=qbm) (hC:rngC C) (l:List St) (hG:∀ x∈l,goS x) {K:MQ→qac} {n0:Nat} (Y:MHs C tT tx g m v o io ir ip K n0) (s:MS) (hI:Cw.Inv 0 0 s) :
  ACalls Tryz.prog 90 [.ptr m 0,.slice (l.map St.c)] (K s.q) fun r h'=>r=endU (qdd C l s).1∧h'=K (qdd C l s).2.q:=by
 refine qa0 Tryz.func90 Tryz.ntmps90 rfl (by kernel_rfl) rfl fun E hN hh hu hb hb' hua=>?_
 simp [go_sem] at hb
 have hmn:=Y.hm
 obtain ⟨L0,hL0⟩:∃ L0,L0=qdd C l s:=⟨_,rfl⟩
 rw [← hL0]
 simp -dsimp [go_sem,hN]
 refine qat (α:=MS) l.length (fun n s'=>Cw.Inv 0 0 s'∧L0=qdd C (l.drop n) s') (fun n s'=>⟨[(0,.ptr m 0),(6,.slice (l.map St.c)),(7,I l.length),(8,I n)],K s'.q⟩) s ⟨hI,by simpa using hL0⟩ (Wk.mk (by simp [hh,Y.len]) (by simp [go_sem]) (by simp [Y.und,Y.undA,Y.len,go_sem]) (by simp [go_sem,Y.len]<;>omega)) ?_
 rintro n s1 hn ⟨hI1,hL⟩
 have hw:=qav hn hb.1
 have hst1:=hI1.st
 simp -dsimp [go_sem,hN]
 refine cnd ?_ ?_<;>intro hc<;>simp at hc
 rotate_left
 ·
  rw [List.drop_eq_nil_of_le (by omega),qdd] at hL
  rw [hL]
  simp -dsimp [go_sem,hN,endU]
  exact ⟨_,.refl _,K s1.q,by simp [go_sem],by first | exact hwk.refl _ | exact hwk.app0 _ | simp [hwk.refl],by simp [Y.len],Y.und' _,by first | rfl | simp,by first | rfl | simp [MS.q]⟩
 rw [qae hc,qdd] at hL
 have hlt:SizeOf.sizeOf l[n]<SizeOf.sizeOf l:=List.sizeOf_lt_of_mem (List.getElem_mem hc)
 simp -dsimp [go_sem,hN,hc,Y.len,St.c_eq]
 refine qam (c_machine_tick (Y.ext [_] (by simp [hUnder,AObj.under,AV.under,qau])) s1 (by omega)) ?_
 rintro r h' ⟨rfl,rfl⟩
 rcases hT:qdj s1 with ⟨z | ⟨⟩,s2⟩
 ·
  rw [hT] at hL
  simp only at hL
  rw [hL]
  simp -dsimp [go_sem,hN,endU]
  exact ⟨_,.refl _,K s2.q,by simp [go_sem],by first | exact hwk.refl _ | exact hwk.app0 _ | simp [hwk.refl],by simp [Y.len],Y.und' _,by first | rfl | simp,by first | rfl | simp [MS.q]⟩
 rw [hT] at hL
 simp only at hL
 have hI2:=hI1.tick hT
 simp -dsimp [go_sem,hN,endU,Y.len,Y.loc]
 refine qam (c_machine_stmt hF hC l[n] (hG _ (List.getElem_mem hc)) (Y.ext [_] (by simp [hUnder,AObj.under,AV.under,qau])) s2 hI2) ?_
 rintro r h' ⟨rfl,rfl⟩
 rcases hS:stI C l[n] s2 with ⟨z | ⟨⟩,s3⟩
 ·
  rw [hS] at hL
  simp only at hL
  rw [hL]
  simp -dsimp [go_sem,hN,endU]
  exact ⟨_,.refl _,K s3.q,by simp [go_sem],by first | exact hwk.refl _ | exact hwk.app0 _ | simp [hwk.refl],by simp [Y.len],Y.und' _,by first | rfl | simp,by first | rfl | simp [MS.q]⟩
 rw [hS] at hL
 simp only at hL
 simp -dsimp [go_sem,hN,endU,hw]
 exact ⟨hc,s3,⟨stI_ok hC _ _ _ _ (hG _ (List.getElem_mem hc)) hI2 hS,hL⟩,(Wk.mk (by simp [hh,Y.len]) (by simp [go_sem]) (by simp [Y.und,Y.undA,Y.len,go_sem]) (by simp [go_sem,Y.len]<;>omega))⟩
termination_by (SizeOf.sizeOf l,0)
theorem c_machine_stmt (hF:C.fmt=qbm) (hC:rngC C) (t:St) (hG:goS t) {K:MQ→qac} {n0:Nat} (Y:MHs C tT tx g m v o io ir ip K n0) (s:MS) (hI:Cw.Inv 8192 1 s) :
  ACalls Tryz.prog 125 [.ptr m 0,.agg t.x] (K s.q) fun r h'=>r=endU (stI C t s).1∧h'=K (stI C t s).2.q:=by
 refine qa0 Tryz.func125 Tryz.ntmps125 rfl (by kernel_rfl) rfl fun E hN hh hu hb hb' hua=>?_
 simp [go_sem] at hb
 have hG':=(goS_iff _).1 hG
 have hmn:=Y.hm
 obtain ⟨hA,hB,hbody,hels⟩:=hG'
 have hst:=hI.st
 have hrd:=hI.rd
 have hpt:=hI.pt
 have hlB:SizeOf.sizeOf t.body<SizeOf.sizeOf t:=by cases t;simp [St.body];omega
 have hlE:SizeOf.sizeOf t.els<SizeOf.sizeOf t:=by cases t;simp [St.els];omega
 rw [stI_eq]
 simp -dsimp [go_sem,hN,Y.len,Y.loc]
 by_cases h12:t.op=1∨t.op=2
 ·
  rw [if_pos h12]
  have ha:=hA (by omega)
  have h1:=hI.eval hC (r:=4097) ha
  have hc:=qbx hF hC (Y.ext [.cells t.x] (by simp [hUnder,AObj.under,AV.under,qau])) s t.a ha.1 hI.rng hI.ar (by have:=ha.2;omega)
  obtain ⟨x0,hx0⟩:∃ x0,x0=evE C t.a s:=⟨_,rfl⟩
  rw [← hx0] at hc ⊢
  refine cnd ?_ ?_<;>intro h<;>simp at h
  all_goals
   rcases x0 with ⟨z | u,s1⟩
   ·
    try simp -dsimp [go_sem,hN]
    refine cnd (fun _=>?_) (fun k=>by simp at k;omega)
    try simp -dsimp [go_sem,hN]
    refine awp_drawK 10 9 [0,1,2,3,4,5] mixed (by kernel_rfl) ?_
    simp -dsimp [go_sem,hN,Y.len,Y.loc,Y.lm',Y.lv']
    refine tkcall_pan (h2:=K s1.q++[.cells t.x]) (hc.mono (by rintro _ _ ⟨rfl,rfl⟩;exact ⟨rfl,rfl⟩)) ?_
    simp -dsimp [go_sem,hN,endU]
    exact ⟨_,.refl _,K s1.q,by simp [go_sem],by first | exact hwk.refl _ | exact hwk.app0 _ | simp [hwk.refl],by simp [Y.len],Y.und' _,by first | rfl | simp,by first | rfl | simp [MS.q]⟩
   ·
    try simp -dsimp [go_sem,hN]
    refine cnd (fun _=>?_) (fun k=>by simp at k;omega)
    try simp -dsimp [go_sem,hN]
    refine awp_drawK 10 9 [0,1,2,3,4,5] mixed (by kernel_rfl) ?_
    simp -dsimp [go_sem,hN,Y.len,Y.loc,Y.lm',Y.lv']
    refine tkcall_ret (h2:=K s1.q++[.cells t.x]) (r:=.agg u.c) (hc.mono (by rintro _ _ ⟨rfl,rfl⟩;exact ⟨rfl,rfl⟩)) ?_
    simp -dsimp [go_sem,hN,endU,Y.len,Y.loc,Y.lm',Y.lv',Y.sv']
    exact ⟨_,.refl _,K (MS.q { s1 with vars:=qce s1.vars t.name u }),by simp [go_sem],by first | exact hwk.refl _ | exact hwk.app0 _ | simp [hwk.refl],by simp [Y.len],Y.und' _,by first | rfl | simp,by first | rfl | simp [MS.q]⟩
 rw [if_neg h12]
 have h12':¬ t.op=1∧¬ t.op=2:=by omega
 refine cnd (fun k=>by simp [h12'] at k) (fun _=>?_)
 try simp -dsimp [go_sem,hN,h12'.1,h12'.2]
 refine cnd ?_ ?_<;>intro h3<;>simp at h3
 ·
  simp only [h3,if_true]
  have ha:=hA (by omega)
  have hb2:=hB (by omega)
  have h1:=hI.eval hC (r:=4097) ha
  simp -dsimp [go_sem,hN,Y.len,Y.loc]
  refine qam (qbx hF hC (Y.ext [_] (by simp [hUnder,AObj.under,AV.under,qau])) s t.a ha.1 hI.rng hI.ar (by have:=ha.2;omega)) ?_
  rintro r h' ⟨rfl,rfl⟩
  rcases hE:evE C t.a s with ⟨z | u,s1⟩
  ·
   simp -dsimp [go_sem,hN,endV,endU]
   exact ⟨_,.refl _,K s1.q,by simp [go_sem],by first | exact hwk.refl _ | exact hwk.app0 _ | simp [hwk.refl],by simp [Y.len],Y.und' _,by first | rfl | simp,by first | rfl | simp [MS.q]⟩
  rw [hE] at h1
  simp only at h1
  dsimp only
  have hrd1:=h1.1.rd
  have hst1:=h1.1.st
  simp -dsimp [go_sem,hN,endV,Y.len,Y.loc,Y.loc1]
  refine qam (qbx hF hC (Y.ext [_,_] (by simp [hUnder,AObj.under,AV.under,qau])) s1 t.b hb2.1 h1.1.rng h1.1.ar (by have:=hb2.2;omega)) ?_
  rintro r h' ⟨rfl,rfl⟩
  have h2:=h1.1.eval hC (r:=2) hb2
  rcases hE2:evE C t.b s1 with ⟨z | w,s2⟩
  ·
   simp -dsimp [go_sem,hN,endV,endU]
   exact ⟨_,.refl _,K s2.q,by simp [go_sem],by first | exact hwk.refl _ | exact hwk.app0 _ | simp [hwk.refl],by simp [Y.len],Y.und' _,by first | rfl | simp,by first | rfl | simp [MS.q]⟩
  rw [hE2] at h2
  simp only at h2
  dsimp only
  simp -dsimp [go_sem,hN,endV,Y.len,Y.loc,Y.loc1,Y.loc2]
  repeat refine ⟨by grind,?_⟩
  have hpt2:=h2.1.pt
  have hst2:=h2.1.st
  refine qam (qdq (decide (u.k=2)&&(decide (w.k=1)||decide (w.k=2))) _) ?_
  rintro r h' ⟨⟨hm,rfl⟩ | ⟨hm,rfl⟩,rfl⟩<;>simp at hm
  rotate_left
  ·
   simp -dsimp [go_sem,hN,endU]
   rw [if_neg (by rintro ⟨k1,k2⟩;have:=hm k1;omega)]
   exact ⟨_,.refl _,K s2.q,by simp [go_sem],by first | exact hwk.refl _ | exact hwk.app0 _ | simp [hwk.refl],by simp [Y.len],Y.und' _,by first | rfl | simp,by first | rfl | simp [MS.q]⟩
  rw [if_pos hm]
  simp -dsimp [go_sem,hN,Y.len,Y.loc,Y.loc1,Y.loc2]
  refine qam (c_machine_store (Y.ext [_,_,_] (by simp [hUnder,AObj.under,AV.under,qau])) s2 u.s w h2.1.ap (by omega)) ?_
  rintro r h' ⟨rfl,rfl⟩
  rcases qb2 C u.s w s2 with ⟨z | ⟨⟩,s3⟩<;>simp -dsimp [go_sem,hN,endU]<;>exact ⟨_,.refl _,K s3.q,by simp [go_sem],by first | exact hwk.refl _ | exact hwk.app0 _ | simp [hwk.refl],by simp [Y.len],Y.und' _,by first | rfl | simp,by first | rfl | simp [MS.q]⟩
 simp only [h3,if_false]
 simp -dsimp [go_sem,hN,Y.len,Y.loc]
 refine cnd ?_ ?_<;>intro h4<;>simp at h4
 ·
  simp only [h4,if_true]
  have ha:=hA (by omega)
  have h1:=hI.eval hC (r:=4097) ha
  simp -dsimp [go_sem,hN,Y.len,Y.loc]
  refine qam (qbx hF hC (Y.ext [_] (by simp [hUnder,AObj.under,AV.under,qau])) s t.a ha.1 hI.rng hI.ar (by have:=ha.2;omega)) ?_
  rintro r h' ⟨rfl,rfl⟩
  rcases hE:evE C t.a s with ⟨z | u,s1⟩
  ·
   simp -dsimp [go_sem,hN,endV,endU]
   exact ⟨_,.refl _,K s1.q,by simp [go_sem],by first | exact hwk.refl _ | exact hwk.app0 _ | simp [hwk.refl],by simp [Y.len],Y.und' _,by first | rfl | simp,by first | rfl | simp [MS.q]⟩
  rw [hE] at h1
  simp only at h1
  dsimp only
  have hpt1:=h1.1.pt
  have hst1:=h1.1.st
  simp -dsimp [go_sem,hN,endV,Y.len,Y.loc,Y.loc1]
  refine qam (qdq (decide (u.k=2)) _) ?_
  rintro r h' ⟨⟨hm,rfl⟩ | ⟨hm,rfl⟩,rfl⟩<;>simp at hm
  rotate_left
  ·
   simp -dsimp [go_sem,hN,endU,hm]
   exact ⟨_,.refl _,K s1.q,by simp [go_sem],by first | exact hwk.refl _ | exact hwk.app0 _ | simp [hwk.refl],by simp [Y.len],Y.und' _,by first | rfl | simp,by first | rfl | simp [MS.q]⟩
  simp only [hm,if_true]
  simp -dsimp [go_sem,hN,Y.len,Y.loc,Y.loc1]
  refine qam (c_machine_store (Y.ext [_,_] (by simp [hUnder,AObj.under,AV.under,qau])) s1 u.s V.nil h1.1.ap (by omega)) ?_
  rintro r h' ⟨rfl,rfl⟩
  rcases qb2 C u.s V.nil s1 with ⟨z | ⟨⟩,s2⟩<;>simp -dsimp [go_sem,hN,endU]<;>exact ⟨_,.refl _,K s2.q,by simp [go_sem],by first | exact hwk.refl _ | exact hwk.app0 _ | simp [hwk.refl],by simp [Y.len],Y.und' _,by first | rfl | simp,by first | rfl | simp [MS.q]⟩
 simp only [h4,if_false]
 simp -dsimp [go_sem,hN,Y.len,Y.loc]
 refine cnd ?_ ?_<;>intro h5<;>simp at h5
 ·
  simp only [h5,if_true]
  have ha:=hA (by omega)
  have h1:=hI.eval hC (r:=4097) ha
  simp -dsimp [go_sem,hN,Y.len,Y.loc]
  refine qam (qbx hF hC (Y.ext [_] (by simp [hUnder,AObj.under,AV.under,qau])) s t.a ha.1 hI.rng hI.ar (by have:=ha.2;omega)) ?_
  rintro r h' ⟨rfl,rfl⟩
  rcases hE:evE C t.a s with ⟨z | u,s1⟩
  ·
   simp -dsimp [go_sem,hN,endV,endU]
   exact ⟨_,.refl _,K s1.q,by simp [go_sem],by first | exact hwk.refl _ | exact hwk.app0 _ | simp [hwk.refl],by simp [Y.len],Y.und' _,by first | rfl | simp,by first | rfl | simp [MS.q]⟩
  rw [hE] at h1
  simp only at h1
  dsimp only
  simp -dsimp [go_sem,hN,endV,Y.len,Y.loc,Y.loc1]
  refine qam (qdq (decide (u.k=3)) _) ?_
  rintro r h' ⟨⟨hm,rfl⟩ | ⟨hm,rfl⟩,rfl⟩<;>simp at hm
  rotate_left
  ·
   simp -dsimp [go_sem,hN,endU,hm]
   exact ⟨_,.refl _,K s1.q,by simp [go_sem],by first | exact hwk.refl _ | exact hwk.app0 _ | simp [hwk.refl],by simp [Y.len],Y.und' _,by first | rfl | simp,by first | rfl | simp [MS.q]⟩
  simp only [hm,if_true]
  simp -dsimp [go_sem,hN,Y.len,Y.loc,Y.loc1]
  refine cnd ?_ ?_<;>intro hx<;>simp at hx
  ·
   simp only [hx,if_true]
   simp -dsimp [go_sem,hN,Y.len,Y.loc,Y.loc1]
   refine qam (qec hF hC t.body hbody (Y.ext [_,_] (by simp [hUnder,AObj.under,AV.under,qau])) s1 (h1.1.mono (by omega) (by omega))) ?_
   rintro r h' ⟨rfl,rfl⟩
   rcases qdd C t.body s1 with ⟨z | ⟨⟩,s2⟩<;>simp -dsimp [go_sem,hN,endU]<;>exact ⟨_,.refl _,K s2.q,by simp [go_sem],by first | exact hwk.refl _ | exact hwk.app0 _ | simp [hwk.refl],by simp [Y.len],Y.und' _,by first | rfl | simp,by first | rfl | simp [MS.q]⟩
  ·
   simp only [hx,if_false]
   simp -dsimp [go_sem,hN,Y.len,Y.loc,Y.loc1]
   refine qam (qec hF hC t.els hels (Y.ext [_,_] (by simp [hUnder,AObj.under,AV.under,qau])) s1 (h1.1.mono (by omega) (by omega))) ?_
   rintro r h' ⟨rfl,rfl⟩
   rcases qdd C t.els s1 with ⟨z | ⟨⟩,s2⟩<;>simp -dsimp [go_sem,hN,endU]<;>exact ⟨_,.refl _,K s2.q,by simp [go_sem],by first | exact hwk.refl _ | exact hwk.app0 _ | simp [hwk.refl],by simp [Y.len],Y.und' _,by first | rfl | simp,by first | rfl | simp [MS.q]⟩
 simp only [h5,if_false]
 simp -dsimp [go_sem,hN,Y.len,Y.loc]
 refine cnd ?_ ?_<;>intro h6<;>simp at h6
 ·
  rw [if_pos h6]
  simp -dsimp [go_sem,hN,Y.len,Y.loc]
  refine qam (c_machine_loop hF hC (Y.ext [_] (by simp [hUnder,AObj.under,AV.under,qau])) t h6 hG s hI (fun Y' s' hI'=>qec hF hC t.body hbody Y' s' hI')) ?_
  rintro r h' ⟨rfl,rfl⟩
  rcases stI C t s with ⟨z | ⟨⟩,s2⟩<;>simp -dsimp [go_sem,hN,endU]<;>exact ⟨_,.refl _,K s2.q,by simp [go_sem],by first | exact hwk.refl _ | exact hwk.app0 _ | simp [hwk.refl],by simp [Y.len],Y.und' _,by first | rfl | simp,by first | rfl | simp [MS.q]⟩
 simp only [h6,if_false]
 simp -dsimp [go_sem,hN,Y.len,Y.loc]
 refine cnd ?_ ?_<;>intro h7<;>simp at h7
 ·
  simp only [h7,if_true]
  have ha:=hA (by omega)
  have h1:=hI.eval hC (r:=4097) ha
  simp -dsimp [go_sem,hN,Y.len,Y.loc]
  refine qam (qbx hF hC (Y.ext [_] (by simp [hUnder,AObj.under,AV.under,qau])) s t.a ha.1 hI.rng hI.ar (by have:=ha.2;omega)) ?_
  rintro r h' ⟨rfl,rfl⟩
  rcases hE:evE C t.a s with ⟨z | u,s1⟩
  ·
   simp -dsimp [go_sem,hN,endV,endU]
   exact ⟨_,.refl _,K s1.q,by simp [go_sem],by first | exact hwk.refl _ | exact hwk.app0 _ | simp [hwk.refl],by simp [Y.len],Y.und' _,by first | rfl | simp,by first | rfl | simp [MS.q]⟩
  rw [hE] at h1
  simp only at h1
  dsimp only
  have hot:=h1.1.ot
  simp -dsimp [go_sem,hN,endV,Y.len,Y.loc,Y.loc1]
  repeat refine ⟨by grind,?_⟩
  refine qam (qdq (decide (u.k=1)||decide (u.k=2)) _) ?_
  rintro r h' ⟨⟨hm,rfl⟩ | ⟨hm,rfl⟩,rfl⟩<;>simp at hm
  rotate_left
  ·
   simp -dsimp [go_sem,hN,endU,hm]
   exact ⟨_,.refl _,K s1.q,by simp [go_sem],by first | exact hwk.refl _ | exact hwk.app0 _ | simp [hwk.refl],by simp [Y.len],Y.und' _,by first | rfl | simp,by first | rfl | simp [MS.q]⟩
  simp only [hm,if_true]
  simp -dsimp [go_sem,hN,Y.len,Y.loc,Y.loc1]
  refine qam (c_machine_emit (Y.ext [_,_] (by simp [hUnder,AObj.under,AV.under,qau])) s1 u (by omega)) ?_
  rintro r h' ⟨rfl,rfl⟩
  rcases emitS u s1 with ⟨z | ⟨⟩,s2⟩<;>simp -dsimp [go_sem,hN,endU]<;>exact ⟨_,.refl _,K s2.q,by simp [go_sem],by first | exact hwk.refl _ | exact hwk.app0 _ | simp [hwk.refl],by simp [Y.len],Y.und' _,by first | rfl | simp,by first | rfl | simp [MS.q]⟩
 simp only [h7,if_false]
 simp -dsimp [go_sem,hN,Y.len,Y.loc]
 refine cnd ?_ ?_<;>intro h8<;>simp at h8
 ·
  simp only [h8,if_true]
  simp -dsimp [go_sem,hN,Y.len,Y.loc]
  refine qam (qa8 t.max _) ?_
  rintro r h' ⟨rfl,rfl⟩
  simp -dsimp [go_sem,hN,endU]
  exact ⟨_,.refl _,K s.q,by simp [go_sem],by first | exact hwk.refl _ | exact hwk.app0 _ | simp [hwk.refl],by simp [Y.len],Y.und' _,by first | rfl | simp,by first | rfl | simp [MS.q]⟩
 ·
  simp only [h8,if_false]
  simp -dsimp [go_sem,hN,endU]
  exact ⟨_,.refl _,K s.q,by simp [go_sem],by first | exact hwk.refl _ | exact hwk.app0 _ | simp [hwk.refl],by simp [Y.len],Y.und' _,by first | rfl | simp,by first | rfl | simp [MS.q]⟩
termination_by (SizeOf.sizeOf t,0)
end
end Go.Proofs.YtdbpbpmikpdjcaaGreatDoor

set_option maxRecDepth 4000
set_option maxHeartbeats 1000000
namespace Go.Proofs.YtdbpbpmikpdjcaaGreatDoor
open Go Go.Abs Go.Cw
theorem c_interp_wrong (h:qac):ACalls Tryz.prog 85 [] h fun r h'=>r=.ret (.agg wrongE.c)∧h'=h:=by
 refine qa0 Tryz.func85 Tryz.ntmps85 rfl (by kernel_rfl) rfl fun E hN hh hu hb hb' hua=>?_
 simp -dsimp [go_sem,hN]
 exact ⟨_,.refl _,h,by simp [go_sem],by simp [go_sem],by simp,by simp [hu,go_sem],rfl,rfl⟩
theorem c_interp_newMachine (st:List Pr) (ft:Foot) (h:qac):ACalls Tryz.prog 86 [.slice (st.map Pr.c),.agg ft.c] h fun r h'=>r=.ret (.ptr (h.length+3) 0) ∧
  h'=h++[.cells ft.c,.map [],.map [],.cells [.slice (st.map Pr.c),Bo ft.all,.slice (ft.reads.map qbe),.slice (ft.writes.map qbe),.mapr (h.length+1),.mapr (h.length+2),I 0,I 0,.nils,.nils,.nils,.nils,S em,I 0]]:=by
 refine qa0 Tryz.func86 Tryz.ntmps86 rfl (by kernel_rfl) rfl fun E hN hh hu hb hb' hua=>?_
 simp -dsimp [go_sem,hN]
 refine ⟨by simp [liftK,liftC],_,.refl _,_,?_,hwk.refl _,by simp,?_,rfl,by rfl⟩
 · simp [go_sem]
 · simp [hu,qab hu,qax,go_sem]
end Go.Proofs.YtdbpbpmikpdjcaaGreatDoor

set_option maxRecDepth 4000
namespace Go.Proofs.YtdbpbpmikpdjcaaGreatDoor
open Go Go.Abs Go.Cw
variable {c a b d:Nat} {H:TS→qac} {n0:Nat}
theorem c_checker_declare (T:TH c a b d H n0) (s:TS) (name:qad) (ty:Int) :
  ACalls Tryz.prog 184 [.ptr c 0,S name,I ty] (H s) fun r h'=>r=.ret (.tuple [])∧h'=H (s.decl name ty):=by
 refine qa0 Tryz.func184 Tryz.ntmps184 rfl (by kernel_rfl) rfl fun E hN hh hu hb hb' hua=>?_
 simp -dsimp [go_sem,hN,T.lc,T.la,T.ld,T.sa,T.sd]
 exact ⟨_,.refl _,H (s.decl name ty),rfl,by simp [TS.decl],by simp [T.len],T.und' _,rfl,rfl⟩
theorem c_checker_operands (T:TH c a b d H n0) (s:TS) (t:St) (hA:t.op≠8→chkE t.a 1=0) (hB:t.op=3∨t.op=6→chkE t.b 1=0) :
  ACalls Tryz.prog 253 [.ptr c 0,.agg t.x] (H s) fun r h'=>r=.ret (.tuple [I (qc1 s.visible t).1,I (qc1 s.visible t).2.1,I (qc1 s.visible t).2.2])∧h'=H s:=by
 refine qa0 Tryz.func253 Tryz.ntmps253 rfl (by kernel_rfl) rfl fun E hN hh hu hb hb' hua=>?_
 simp -dsimp [go_sem,hN]
 refine cnd ?_ ?_<;>intro h0<;>simp at h0
 ·
  simp -dsimp [go_sem,hN]
  rw [qc1,if_pos h0]
  exact ⟨_,.refl _,H s,rfl,by simp,by simp,hu,rfl,rfl⟩
 simp -dsimp [go_sem,hN]
 refine awp_drawK 11 6 [] mixed (by kernel_rfl) ?_
 simp -dsimp [go_sem,hN,T.lc',T.la']
 refine tkcall_ret (c_types_of s.visible t.a 1 (hA h0) _ a (T.la' s _)) ?_
 simp -dsimp [go_sem,hN]
 refine ⟨by grind,?_⟩
 refine cnd ?_ ?_<;>intro h1<;>simp at h1
 ·
  simp -dsimp [go_sem,hN]
  refine awp_drawK 11 6 [] mixed (by kernel_rfl) ?_
  simp -dsimp [go_sem,hN,T.lc',T.la']
  refine tkcall_ret (c_types_of s.visible t.b 1 (hB h1.2) _ a (T.la' s _)) ?_
  simp -dsimp [go_sem,hN]
  rw [qc1,if_neg h0,if_pos h1]
  exact ⟨_,.refl _,H s,rfl,by simp,by simp,hu,rfl,rfl⟩
 ·
  simp -dsimp [go_sem,hN]
  rw [qc1,if_neg h0,if_neg (by rintro ⟨h2,h3⟩;have:=h1 h2;omega)]
  exact ⟨_,.refl _,H s,rfl,by simp,by simp,hu,rfl,rfl⟩
set_option maxHeartbeats 4000000 in
mutual
theorem qed {H:TS→qac} {n0:Nat} (T:TH c a b d H n0) (s:TS) (l:List St) (dp:Nat) (hl:okL l dp) :
  ACalls Tryz.prog 186 [.ptr c 0,.slice (l.map St.c)] (H s) fun r h'=>r=.ret (I (blkT l s).1)∧h'=H (blkT l s).2:=by
 refine qa0 Tryz.func186 Tryz.ntmps186 rfl (by kernel_rfl) rfl fun E hN hh hu hb hb' hua=>?_
 simp [go_sem] at hb
 simp -dsimp [go_sem,hN]
 refine qat (α:=TS) l.length (fun n x=>qc9 (l.drop n) x=qc9 l s) (fun n x=>⟨[(0,.ptr c 0),(1,.slice (l.map St.c)),(10,.slice (l.map St.c)),(11,I l.length),(12,I n)],H x⟩) s (by simp) (Wk.mk (by simp [hh,T.len]) (by simp [go_sem]) (T.und' _) (by have:=T.hc;simp [go_sem,T.len];omega)) ?_
 intro n x hn hI
 have hw:=qav hn hb.1
 simp -dsimp [go_sem,hN]
 refine cnd ?_ ?_<;>intro hc<;>simp at hc
 ·
  rw [qae hc,qc9] at hI
  have hlt:SizeOf.sizeOf l[n]<SizeOf.sizeOf l:=List.sizeOf_lt_of_mem (List.getElem_mem hc)
  simp -dsimp [go_sem,hN,hc]
  refine qam (c_checker_statement (T.ext [.cells l[n].x] (by simp [go_sem])) x l[n] dp (hl _ (List.getElem_mem hc))) ?_
  rintro r h' ⟨rfl,rfl⟩
  simp -dsimp [go_sem,hN]
  refine cnd ?_ ?_<;>intro h1<;>simp at h1
  ·
   rw [if_pos h1] at hI
   simp -dsimp [go_sem,hN]
   rw [blkT,qb6,← hI,if_pos h1]
   exact ⟨_,.refl _,H (stT l[n] x).2,rfl,by simp,by simp [T.len],T.und' _,rfl,rfl⟩
  ·
   rw [if_neg (by simpa using h1)] at hI
   simp -dsimp [go_sem,hN,hw]
   exact ⟨hc,_,hI,Wk.mk (by simp [hh,T.len]) (by simp [go_sem]) (T.und' _) (by have:=T.hc;simp [go_sem,T.len];omega)⟩
 rw [List.drop_eq_nil_of_le (by omega),qc9] at hI
 simp -dsimp [go_sem,hN]
 refine qat (α:=List (qad×Int)) l.length (fun n v=>delLets (l.drop n) v=delLets l x.visible) (fun n v=>⟨[(0,.ptr c 0),(23,.slice (l.map St.c)),(24,I l.length),(25,I n)],H ⟨v,x.loops,x.all⟩⟩) x.visible (by simp) (Wk.mk (by simp [hh,T.len]) (by simp [go_sem]) (T.und' _) (by have:=T.hc;simp [go_sem,T.len];omega)) ?_
 intro n v hn hJ
 have hw:=qav hn hb.1
 simp -dsimp [go_sem,hN]
 refine cnd ?_ ?_<;>intro hc<;>simp at hc
 ·
  rw [qae hc,delLets] at hJ
  simp -dsimp [go_sem,hN,hc]
  refine cnd ?_ ?_<;>intro h1<;>simp at h1
  ·
   rw [if_pos h1] at hJ
   simp -dsimp [go_sem,hN]
   refine qah 6 mixed (by kernel_rfl) (by kernel_rfl) ?_
   simp -dsimp [go_sem,hN,T.lc',T.la',T.sa',hw]
   exact ⟨hc,_,hJ,Wk.mk (by simp [hh,T.len]) (by simp [go_sem]) (T.und' _) (by have:=T.hc;simp [go_sem,T.len];omega)⟩
  ·
   rw [if_neg h1] at hJ
   simp -dsimp [go_sem,hN,hw]
   exact ⟨hc,_,hJ,Wk.mk (by simp [hh,T.len]) (by simp [go_sem]) (T.und' _) (by have:=T.hc;simp [go_sem,T.len];omega)⟩
 ·
  rw [List.drop_eq_nil_of_le (by omega),delLets] at hJ
  simp -dsimp [go_sem,hN]
  rw [blkT,qb6,← hI,if_neg (by simp),hJ]
  exact ⟨_,.refl _,H ⟨delLets l x.visible,x.loops,x.all⟩,rfl,by simp,by simp [T.len],T.und' _,rfl,rfl⟩
termination_by SizeOf.sizeOf l
theorem c_checker_statement {H:TS→qac} {n0:Nat} (T:TH c a b d H n0) (s:TS) (t:St) (dp:Nat) (ht:okS t dp) :
  ACalls Tryz.prog 224 [.ptr c 0,.agg t.x] (H s) fun r h'=>r=.ret (I (stT t s).1)∧h'=H (stT t s).2:=by
 refine qa0 Tryz.func224 Tryz.ntmps224 rfl (by kernel_rfl) rfl fun E hN hh hu hb hb' hua=>?_
 simp -dsimp [go_sem,hN]
 refine qam (c_checker_operands (T.ext [.cells t.x] (by simp [go_sem])) s t ?_ ?_) ?_
 · exact fun h0=>okS_a ht h0
 · exact fun h0=>okS_b ht h0
 rintro r h' ⟨rfl,rfl⟩
 have hbody:=((qcg t dp).1 ht).2.1
 have hels:=((qcg t dp).1 ht).2.2
 have lt1:=St.body_le t
 have lt2:=St.els_le t
 have lb0:∀ (s:TS) (l:qac),(H s++l).length=n0+l.length:=fun s l=>by rw [List.length_append,T.len]
 rw [stT_eq,stStep]
 simp -dsimp [go_sem,hN]
 refine cnd ?_ ?_<;>intro h1<;>simp at h1
 ·
  rw [if_pos h1]
  simp -dsimp [go_sem,hN]
  exact ⟨_,.refl _,H s,rfl,by simp,by simp,hu,rfl,rfl⟩
 rw [if_neg (by simpa using h1)]
 simp -dsimp [go_sem,hN]
 refine cnd ?_ ?_<;>intro h2<;>simp at h2
 ·
  rw [if_pos h2]
  simp -dsimp [go_sem,hN]
  refine qam (c_checker_declare (T.ext [.cells t.x] (by simp [go_sem])) s t.name _) ?_
  rintro r h' ⟨rfl,rfl⟩
  simp -dsimp [go_sem,hN]
  exact ⟨_,.refl _,H (s.decl t.name (qc1 s.visible t).1),rfl,by simp,by simp [T.len],T.und' _,by first | rfl | grind | simp [*],by first | rfl | grind | simp [*]⟩
 rw [if_neg h2]
 simp -dsimp [go_sem,hN]
 refine cnd ?_ ?_<;>intro h3<;>simp at h3
 ·
  rw [if_pos h3]
  simp -dsimp [go_sem,hN]
  refine qah 11 mixed (by kernel_rfl) (by kernel_rfl) ?_
  rcases hk:qbs s.visible t.name with _ | ty
  ·
   simp -dsimp [go_sem,hN,T.lc',T.la',hk]
   exact ⟨_,.refl _,H s,rfl,by simp,by simp [T.len],T.und' _,by first | rfl | grind | simp [*],by first | rfl | grind | simp [*]⟩
  ·
   simp -dsimp [go_sem,hN,T.lc',T.la',hk]
   refine qah 6 mixed (by kernel_rfl) (by kernel_rfl) ?_
   rcases hl:qbs s.loops t.name with _ | bo
   ·
    simp -dsimp [go_sem,hN,T.lc',T.lb',hl]
    refine cnd ?_ ?_<;>intro h4<;>simp at h4
    ·
     simp -dsimp [go_sem,hN]
     exact ⟨_,.refl _,H s,rfl,by simp,by simp [T.len],T.und' _,by first | rfl | grind | simp [*],by first | rfl | grind | simp [*]⟩
    ·
     simp -dsimp [go_sem,hN]
     exact ⟨_,.refl _,H s,rfl,by simp,by simp [T.len],T.und' _,by first | rfl | grind | simp [*],by first | rfl | grind | simp [*]⟩
   ·
    simp -dsimp [go_sem,hN,T.lc',T.lb',hl]
    refine cnd (fun h4=>?_) (fun h4=>?_)
    ·
     simp -dsimp [go_sem,hN]
     exact ⟨_,.refl _,H s,rfl,by simp,by simp [T.len],T.und' _,by first | rfl | grind | simp [*],by first | rfl | grind | simp [*]⟩
    ·
     simp -dsimp [go_sem,hN]
     refine cnd ?_ ?_<;>intro h5<;>simp at h5
     ·
      simp -dsimp [go_sem,hN]
      exact ⟨_,.refl _,H s,rfl,by simp,by simp [T.len],T.und' _,by first | rfl | grind | simp [*],by first | rfl | grind | simp [*]⟩
     ·
      simp -dsimp [go_sem,hN]
      exact ⟨_,.refl _,H s,rfl,by simp,by simp [T.len],T.und' _,by first | rfl | grind | simp [*],by first | rfl | grind | simp [*]⟩
 rw [if_neg h3]
 simp -dsimp [go_sem,hN]
 refine cnd ?_ ?_<;>intro h4<;>simp at h4
 ·
  rw [if_pos h4]
  simp -dsimp [go_sem,hN]
  repeat refine ⟨by grind,?_⟩
  refine cnd ?_ ?_<;>intro h5<;>simp at h5
  ·
   simp -dsimp [go_sem,hN]
   exact ⟨_,.refl _,H s,rfl,by simp,by simp [T.len],T.und' _,by first | rfl | grind | simp [*],by first | rfl | grind | simp [*]⟩
  ·
   simp -dsimp [go_sem,hN]
   exact ⟨_,.refl _,H s,rfl,by simp,by simp [T.len],T.und' _,by first | rfl | grind | simp [*],by first | rfl | grind | simp [*]⟩
 rw [if_neg h4]
 simp -dsimp [go_sem,hN]
 refine cnd ?_ ?_<;>intro h5<;>simp at h5
 ·
  rw [if_pos h5]
  simp -dsimp [go_sem,hN]
  refine cnd ?_ ?_<;>intro h6<;>simp at h6
  ·
   simp -dsimp [go_sem,hN]
   exact ⟨_,.refl _,H s,rfl,by simp,by simp [T.len],T.und' _,by first | rfl | grind | simp [*],by first | rfl | grind | simp [*]⟩
  ·
   simp -dsimp [go_sem,hN]
   exact ⟨_,.refl _,H s,rfl,by simp,by simp [T.len],T.und' _,by first | rfl | grind | simp [*],by first | rfl | grind | simp [*]⟩
 rw [if_neg h5]
 simp -dsimp [go_sem,hN]
 refine cnd ?_ ?_<;>intro h6<;>simp at h6
 ·
  rw [if_pos h6]
  simp -dsimp [go_sem,hN]
  refine cnd ?_ ?_<;>intro h7<;>simp at h7
  ·
   simp -dsimp [go_sem,hN]
   exact ⟨_,.refl _,H s,rfl,by simp,by simp [T.len],T.und' _,by first | rfl | grind | simp [*],by first | rfl | grind | simp [*]⟩
  ·
   simp -dsimp [go_sem,hN]
   exact ⟨_,.refl _,H s,rfl,by simp,by simp [T.len],T.und' _,by first | rfl | grind | simp [*],by first | rfl | grind | simp [*]⟩
 rw [if_neg h6]
 simp -dsimp [go_sem,hN]
 refine cnd ?_ ?_<;>intro h7<;>simp at h7
 ·
  rw [if_pos h7]
  simp -dsimp [go_sem,hN]
  refine cnd ?_ ?_<;>intro h8<;>simp at h8
  ·
   simp -dsimp [go_sem,hN]
   exact ⟨_,.refl _,H s,rfl,by simp,by simp [T.len],T.und' _,by first | rfl | grind | simp [*],by first | rfl | grind | simp [*]⟩
  rw [if_neg (by simpa using h8)]
  simp -dsimp [go_sem,hN]
  refine qam (qed (T.ext [.cells t.x] (by simp [go_sem])) s t.body (dp+1) hbody) ?_
  rintro r h' ⟨rfl,rfl⟩
  simp -dsimp [go_sem,hN]
  refine cnd ?_ ?_<;>intro h9<;>simp at h9
  ·
   simp -dsimp [go_sem,hN]
   exact ⟨_,.refl _,H (blkT t.body s).2,rfl,by simp,by simp [T.len],T.und' _,by first | rfl | grind | simp [*],by first | rfl | grind | simp [*]⟩
  rw [if_neg (by simpa using h9)]
  simp -dsimp [go_sem,hN,lb0,T.len]
  refine qam (qed (T.ext [.cells t.x] (by simp [go_sem])) (blkT t.body s).2 t.els (dp+1) hels) ?_
  rintro r h' ⟨rfl,rfl⟩
  simp -dsimp [go_sem,hN]
  exact ⟨_,.refl _,H (blkT t.els (blkT t.body s).2).2,rfl,by simp,by simp [T.len],T.und' _,by first | rfl | grind | simp [*],by first | rfl | grind | simp [*]⟩
 rw [if_neg h7]
 simp -dsimp [go_sem,hN]
 refine cnd ?_ ?_<;>intro h8<;>simp at h8
 ·
  rw [if_pos h8]
  simp -dsimp [go_sem,hN]
  repeat refine ⟨by grind,?_⟩
  refine cnd ?_ ?_<;>intro h9<;>simp at h9
  ·
   simp -dsimp [go_sem,hN]
   exact ⟨_,.refl _,H s,rfl,by simp,by simp [T.len],T.und' _,by first | rfl | grind | simp [*],by first | rfl | grind | simp [*]⟩
  rw [if_neg (by grind)]
  simp -dsimp [go_sem,hN]
  refine qam (c_checker_declare (T.ext [.cells t.x] (by simp [go_sem])) s t.name 1) ?_
  rintro r h' ⟨rfl,rfl⟩
  simp -dsimp [go_sem,hN]
  refine qah 6 mixed (by kernel_rfl) (by kernel_rfl) ?_
  simp -dsimp [go_sem,hN,T.lc',T.lb',T.sb',T.len]
  refine qam (qed (T.ext [.cells t.x] (by simp [go_sem])) ⟨qce s.visible t.name 1,qce s.loops t.name true,qce s.all t.name 1⟩ t.body (dp+1) hbody) ?_
  rintro r h' ⟨rfl,rfl⟩
  simp -dsimp [go_sem,hN]
  refine qah 6 mixed (by kernel_rfl) (by kernel_rfl) ?_
  simp -dsimp [go_sem,hN,T.lc',T.la',T.sa',T.len]
  exact ⟨_,.refl _,H ⟨kDel (blkT t.body ⟨qce s.visible t.name 1,qce s.loops t.name true,qce s.all t.name 1⟩).2.visible t.name,(blkT t.body ⟨qce s.visible t.name 1,qce s.loops t.name true,qce s.all t.name 1⟩).2.loops,(blkT t.body ⟨qce s.visible t.name 1,qce s.loops t.name true,qce s.all t.name 1⟩).2.all⟩,rfl,by simp,by simp [T.len],T.und' _,by first | rfl | grind | simp [*],by first | rfl | grind | simp [*]⟩
 rw [if_neg h8]
 simp -dsimp [go_sem,hN]
 exact ⟨_,.refl _,H s,rfl,by simp,by simp [T.len],T.und' _,by first | rfl | grind | simp [*],by first | rfl | grind | simp [*]⟩
termination_by SizeOf.sizeOf t
end
end Go.Proofs.YtdbpbpmikpdjcaaGreatDoor
