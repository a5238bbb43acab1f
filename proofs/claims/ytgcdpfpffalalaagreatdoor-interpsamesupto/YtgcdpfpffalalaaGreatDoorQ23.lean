/- Part 23 of a proof: W26, W27, W28, W29, R1, W30 -/
import Derived.Test.YtgcdpfpffalalaaGreatDoorQ09
import Derived.Test.YtgcdpfpffalalaaGreatDoorQ13
import Derived.Test.YtgcdpfpffalalaaGreatDoorQ17
import Derived.Test.YtgcdpfpffalalaaGreatDoorQ18
import Derived.Test.YtgcdpfpffalalaaGreatDoorQ22
set_option linter.all false

set_option linter.unusedSimpArgs false
set_option linter.unusedVariables false
set_option maxRecDepth 4000
set_option maxHeartbeats 1000000
namespace Go.Proofs.YtgcdpfpffalalaaGreatDoor
open Go Go.Abs Go.Cw
attribute [local go_sem] mC

variable {C : Cfg} {tT : TypeId} {tx : Nat × Nat} {g m v o io ir ip : Nat}

mutual
theorem c_machine_block (hF : C.fmt = fmtI) (hC : rngC C) (l : List St) (hG : ∀ x ∈ l, goS x) {K : MQ → AHeap} {n0 : Nat} (Y : MHs C tT tx g m v o io ir ip K n0) (s : MS) (hI : Cw.Inv 0 0 s) :
    ACalls Tryz.prog 37 [.ptr m 0, .slice (l.map St.c)] (K s.q) fun r h' => r = endU (blkI C l s).1 ∧ h' = K (blkI C l s).2.q := by
  refine acalls_introB Tryz.func37 rfl (by kernel_rfl) (by simp [Tryz.ntmps37]) ?_
  intro E hN hh hu hb hb' hua
  rw [Tryz.ntmps37] at hN
  refine awp_of_wpC _ _ _ ?_
  simp [go_sem] at hb
  have hmn := Y.hm
  obtain ⟨L0, hL0⟩ : ∃ L0, L0 = blkI C l s := ⟨_, rfl⟩
  rw [← hL0]
  simp -dsimp [go_sem, hN]
  refine awp_loopA (α := MS) l.length (fun n s' => Cw.Inv 0 0 s' ∧ L0 = blkI C (l.drop n) s') (fun n s' => ⟨[(0, .ptr m 0), (6, .slice (l.map St.c)), (7, I l.length), (8, I n)], K s'.q⟩) s ⟨hI, by simpa using hL0⟩ (Wk.mk (by simp [hh, Y.len]) (by simp [go_sem]) (by simp [Y.und, Y.undA, Y.len, go_sem]) (by simp [go_sem, Y.len] <;> omega)) ?_
  rintro n s1 hn ⟨hI1, hL⟩
  have hw := wrapS hn hb.1
  have hst1 := hI1.st
  simp -dsimp [go_sem, hN]
  refine cnd (fun hc => ?_) (fun hc => ?_) <;> simp at hc
  rotate_left
  · rw [List.drop_eq_nil_of_le (by omega), blkI] at hL
    rw [hL]
    simp -dsimp [go_sem, hN, endU]
    exact ⟨_, .refl _, K s1.q, by simp [go_sem], by first | exact hwk.refl _ | exact hwk.app0 _ | simp [hwk.refl], by simp [Y.len], Y.und' _, by first | rfl | simp, by first | rfl | simp [MS.q]⟩
  rw [drop_next hc, blkI] at hL
  have hlt : SizeOf.sizeOf l[n] < SizeOf.sizeOf l := List.sizeOf_lt_of_mem (List.getElem_mem hc)
  simp -dsimp [go_sem, hN, hc, Y.len, St.c_eq]
  refine tcall (c_machine_tick (Y.ext [_] (by simp [hUnder, AObj.under, AV.under, underL])) s1 (by omega)) ?_
  rintro r h' ⟨rfl, rfl⟩
  rcases hT : tickS s1 with ⟨z | ⟨⟩, s2⟩
  · rw [hT] at hL
    simp only at hL
    rw [hL]
    simp -dsimp [go_sem, hN, endU]
    exact ⟨_, .refl _, K s2.q, by simp [go_sem], by first | exact hwk.refl _ | exact hwk.app0 _ | simp [hwk.refl], by simp [Y.len], Y.und' _, by first | rfl | simp, by first | rfl | simp [MS.q]⟩
  rw [hT] at hL
  simp only at hL
  have hI2 := hI1.tick hT
  simp -dsimp [go_sem, hN, endU, Y.len, Y.loc]
  refine tcall (c_machine_stmt hF hC l[n] (hG _ (List.getElem_mem hc)) (Y.ext [_] (by simp [hUnder, AObj.under, AV.under, underL])) s2 hI2) ?_
  rintro r h' ⟨rfl, rfl⟩
  rcases hS : stI C l[n] s2 with ⟨z | ⟨⟩, s3⟩
  · rw [hS] at hL
    simp only at hL
    rw [hL]
    simp -dsimp [go_sem, hN, endU]
    exact ⟨_, .refl _, K s3.q, by simp [go_sem], by first | exact hwk.refl _ | exact hwk.app0 _ | simp [hwk.refl], by simp [Y.len], Y.und' _, by first | rfl | simp, by first | rfl | simp [MS.q]⟩
  rw [hS] at hL
  simp only at hL
  simp -dsimp [go_sem, hN, endU, hw]
  exact ⟨hc, s3, ⟨stI_ok hC _ _ _ _ (hG _ (List.getElem_mem hc)) hI2 hS, hL⟩, (Wk.mk (by simp [hh, Y.len]) (by simp [go_sem]) (by simp [Y.und, Y.undA, Y.len, go_sem]) (by simp [go_sem, Y.len] <;> omega))⟩
termination_by (SizeOf.sizeOf l, 0)
theorem c_machine_stmt (hF : C.fmt = fmtI) (hC : rngC C) (t : St) (hG : goS t) {K : MQ → AHeap} {n0 : Nat} (Y : MHs C tT tx g m v o io ir ip K n0) (s : MS) (hI : Cw.Inv 8192 1 s) :
    ACalls Tryz.prog 75 [.ptr m 0, .agg t.x] (K s.q) fun r h' => r = endU (stI C t s).1 ∧ h' = K (stI C t s).2.q := by
  refine acalls_introB Tryz.func75 rfl (by kernel_rfl) (by simp [Tryz.ntmps75]) ?_
  intro E hN hh hu hb hb' hua
  rw [Tryz.ntmps75] at hN
  refine awp_of_wpC _ _ _ ?_
  simp [go_sem] at hb
  have hG' := (goS_iff _).1 hG
  have hmn := Y.hm
  obtain ⟨hA, hB, hbody, hels⟩ := hG'
  have hst := hI.st
  have hrd := hI.rd
  have hpt := hI.pt
  have hlB : SizeOf.sizeOf t.body < SizeOf.sizeOf t := by cases t; simp [St.body]; omega
  have hlE : SizeOf.sizeOf t.els < SizeOf.sizeOf t := by cases t; simp [St.els]; omega
  rw [stI_eq]
  simp -dsimp [go_sem, hN, Y.len, Y.loc]
  by_cases h12 : t.op = 1 ∨ t.op = 2
  · rw [if_pos h12]
    have ha := hA (by omega)
    have h1 := hI.eval hC (r := 4097) ha
    have hc := c_machine_eval hF hC (Y.ext [.cells t.x] (by simp [hUnder, AObj.under, AV.under, underL])) s t.a ha.1 hI.rng hI.ar (by have := ha.2; omega)
    obtain ⟨x0, hx0⟩ : ∃ x0, x0 = evE C t.a s := ⟨_, rfl⟩
    rw [← hx0] at hc ⊢
    refine cnd (fun h => ?_) (fun h => ?_) <;> simp at h
    all_goals
      rcases x0 with ⟨z | u, s1⟩
      · try simp -dsimp [go_sem, hN]
        refine cnd (fun _ => ?_) (fun k => by simp at k; omega)
        try simp -dsimp [go_sem, hN]
        refine awp_drawK 10 9 [0, 1, 2, 3, 4, 5] mixed (by kernel_rfl) ?_
        simp -dsimp [go_sem, hN, Y.len, Y.loc, Y.lm', Y.lv']
        refine tkcall_pan (h2 := K s1.q ++ [.cells t.x]) (hc.mono (by rintro _ _ ⟨rfl, rfl⟩; exact ⟨rfl, rfl⟩)) ?_
        simp -dsimp [go_sem, hN, endU]
        exact ⟨_, .refl _, K s1.q, by simp [go_sem], by first | exact hwk.refl _ | exact hwk.app0 _ | simp [hwk.refl], by simp [Y.len], Y.und' _, by first | rfl | simp, by first | rfl | simp [MS.q]⟩
      · try simp -dsimp [go_sem, hN]
        refine cnd (fun _ => ?_) (fun k => by simp at k; omega)
        try simp -dsimp [go_sem, hN]
        refine awp_drawK 10 9 [0, 1, 2, 3, 4, 5] mixed (by kernel_rfl) ?_
        simp -dsimp [go_sem, hN, Y.len, Y.loc, Y.lm', Y.lv']
        refine tkcall_ret (h2 := K s1.q ++ [.cells t.x]) (r := .agg u.c) (hc.mono (by rintro _ _ ⟨rfl, rfl⟩; exact ⟨rfl, rfl⟩)) ?_
        simp -dsimp [go_sem, hN, endU, Y.len, Y.loc, Y.lm', Y.lv', Y.sv']
        exact ⟨_, .refl _, K (MS.q { s1 with vars := kSet s1.vars t.name u }), by simp [go_sem], by first | exact hwk.refl _ | exact hwk.app0 _ | simp [hwk.refl], by simp [Y.len], Y.und' _, by first | rfl | simp, by first | rfl | simp [MS.q]⟩
  rw [if_neg h12]
  have h12' : ¬ t.op = 1 ∧ ¬ t.op = 2 := by omega
  refine cnd (fun k => by simp [h12'] at k) (fun _ => ?_)
  try simp -dsimp [go_sem, hN, h12'.1, h12'.2]
  refine cnd (fun h3 => ?_) (fun h3 => ?_) <;> simp at h3
  · simp only [h3, if_true]
    have ha := hA (by omega)
    have hb2 := hB (by omega)
    have h1 := hI.eval hC (r := 4097) ha
    simp -dsimp [go_sem, hN, Y.len, Y.loc]
    refine tcall (c_machine_eval hF hC (Y.ext [_] (by simp [hUnder, AObj.under, AV.under, underL])) s t.a ha.1 hI.rng hI.ar (by have := ha.2; omega)) ?_
    rintro r h' ⟨rfl, rfl⟩
    rcases hE : evE C t.a s with ⟨z | u, s1⟩
    · simp -dsimp [go_sem, hN, endV, endU]
      exact ⟨_, .refl _, K s1.q, by simp [go_sem], by first | exact hwk.refl _ | exact hwk.app0 _ | simp [hwk.refl], by simp [Y.len], Y.und' _, by first | rfl | simp, by first | rfl | simp [MS.q]⟩
    rw [hE] at h1
    simp only at h1
    dsimp only
    have hrd1 := h1.1.rd
    have hst1 := h1.1.st
    simp -dsimp [go_sem, hN, endV, Y.len, Y.loc, Y.loc1]
    refine tcall (c_machine_eval hF hC (Y.ext [_, _] (by simp [hUnder, AObj.under, AV.under, underL])) s1 t.b hb2.1 h1.1.rng h1.1.ar (by have := hb2.2; omega)) ?_
    rintro r h' ⟨rfl, rfl⟩
    have h2 := h1.1.eval hC (r := 2) hb2
    rcases hE2 : evE C t.b s1 with ⟨z | w, s2⟩
    · simp -dsimp [go_sem, hN, endV, endU]
      exact ⟨_, .refl _, K s2.q, by simp [go_sem], by first | exact hwk.refl _ | exact hwk.app0 _ | simp [hwk.refl], by simp [Y.len], Y.und' _, by first | rfl | simp, by first | rfl | simp [MS.q]⟩
    rw [hE2] at h2
    simp only at h2
    dsimp only
    simp -dsimp [go_sem, hN, endV, Y.len, Y.loc, Y.loc1, Y.loc2]
    repeat refine ⟨by grind, ?_⟩
    have hpt2 := h2.1.pt
    have hst2 := h2.1.st
    refine tcall (c_must (decide (u.k = 2) && (decide (w.k = 1) || decide (w.k = 2))) _) ?_
    rintro r h' ⟨⟨hm, rfl⟩ | ⟨hm, rfl⟩, rfl⟩ <;> simp at hm
    rotate_left
    · simp -dsimp [go_sem, hN, endU]
      rw [if_neg (by rintro ⟨k1, k2⟩; have := hm k1; omega)]
      exact ⟨_, .refl _, K s2.q, by simp [go_sem], by first | exact hwk.refl _ | exact hwk.app0 _ | simp [hwk.refl], by simp [Y.len], Y.und' _, by first | rfl | simp, by first | rfl | simp [MS.q]⟩
    rw [if_pos hm]
    simp -dsimp [go_sem, hN, Y.len, Y.loc, Y.loc1, Y.loc2]
    refine tcall (c_machine_store (Y.ext [_, _, _] (by simp [hUnder, AObj.under, AV.under, underL])) s2 u.s w h2.1.ap (by omega)) ?_
    rintro r h' ⟨rfl, rfl⟩
    rcases storeS C u.s w s2 with ⟨z | ⟨⟩, s3⟩ <;> simp -dsimp [go_sem, hN, endU] <;> exact ⟨_, .refl _, K s3.q, by simp [go_sem], by first | exact hwk.refl _ | exact hwk.app0 _ | simp [hwk.refl], by simp [Y.len], Y.und' _, by first | rfl | simp, by first | rfl | simp [MS.q]⟩
  simp only [h3, if_false]
  simp -dsimp [go_sem, hN, Y.len, Y.loc]
  refine cnd (fun h4 => ?_) (fun h4 => ?_) <;> simp at h4
  · simp only [h4, if_true]
    have ha := hA (by omega)
    have h1 := hI.eval hC (r := 4097) ha
    simp -dsimp [go_sem, hN, Y.len, Y.loc]
    refine tcall (c_machine_eval hF hC (Y.ext [_] (by simp [hUnder, AObj.under, AV.under, underL])) s t.a ha.1 hI.rng hI.ar (by have := ha.2; omega)) ?_
    rintro r h' ⟨rfl, rfl⟩
    rcases hE : evE C t.a s with ⟨z | u, s1⟩
    · simp -dsimp [go_sem, hN, endV, endU]
      exact ⟨_, .refl _, K s1.q, by simp [go_sem], by first | exact hwk.refl _ | exact hwk.app0 _ | simp [hwk.refl], by simp [Y.len], Y.und' _, by first | rfl | simp, by first | rfl | simp [MS.q]⟩
    rw [hE] at h1
    simp only at h1
    dsimp only
    have hpt1 := h1.1.pt
    have hst1 := h1.1.st
    simp -dsimp [go_sem, hN, endV, Y.len, Y.loc, Y.loc1]
    refine tcall (c_must (decide (u.k = 2)) _) ?_
    rintro r h' ⟨⟨hm, rfl⟩ | ⟨hm, rfl⟩, rfl⟩ <;> simp at hm
    rotate_left
    · simp -dsimp [go_sem, hN, endU, hm]
      exact ⟨_, .refl _, K s1.q, by simp [go_sem], by first | exact hwk.refl _ | exact hwk.app0 _ | simp [hwk.refl], by simp [Y.len], Y.und' _, by first | rfl | simp, by first | rfl | simp [MS.q]⟩
    simp only [hm, if_true]
    simp -dsimp [go_sem, hN, Y.len, Y.loc, Y.loc1]
    refine tcall (c_machine_store (Y.ext [_, _] (by simp [hUnder, AObj.under, AV.under, underL])) s1 u.s V.nil h1.1.ap (by omega)) ?_
    rintro r h' ⟨rfl, rfl⟩
    rcases storeS C u.s V.nil s1 with ⟨z | ⟨⟩, s2⟩ <;> simp -dsimp [go_sem, hN, endU] <;> exact ⟨_, .refl _, K s2.q, by simp [go_sem], by first | exact hwk.refl _ | exact hwk.app0 _ | simp [hwk.refl], by simp [Y.len], Y.und' _, by first | rfl | simp, by first | rfl | simp [MS.q]⟩
  simp only [h4, if_false]
  simp -dsimp [go_sem, hN, Y.len, Y.loc]
  refine cnd (fun h5 => ?_) (fun h5 => ?_) <;> simp at h5
  · simp only [h5, if_true]
    have ha := hA (by omega)
    have h1 := hI.eval hC (r := 4097) ha
    simp -dsimp [go_sem, hN, Y.len, Y.loc]
    refine tcall (c_machine_eval hF hC (Y.ext [_] (by simp [hUnder, AObj.under, AV.under, underL])) s t.a ha.1 hI.rng hI.ar (by have := ha.2; omega)) ?_
    rintro r h' ⟨rfl, rfl⟩
    rcases hE : evE C t.a s with ⟨z | u, s1⟩
    · simp -dsimp [go_sem, hN, endV, endU]
      exact ⟨_, .refl _, K s1.q, by simp [go_sem], by first | exact hwk.refl _ | exact hwk.app0 _ | simp [hwk.refl], by simp [Y.len], Y.und' _, by first | rfl | simp, by first | rfl | simp [MS.q]⟩
    rw [hE] at h1
    simp only at h1
    dsimp only
    simp -dsimp [go_sem, hN, endV, Y.len, Y.loc, Y.loc1]
    refine tcall (c_must (decide (u.k = 3)) _) ?_
    rintro r h' ⟨⟨hm, rfl⟩ | ⟨hm, rfl⟩, rfl⟩ <;> simp at hm
    rotate_left
    · simp -dsimp [go_sem, hN, endU, hm]
      exact ⟨_, .refl _, K s1.q, by simp [go_sem], by first | exact hwk.refl _ | exact hwk.app0 _ | simp [hwk.refl], by simp [Y.len], Y.und' _, by first | rfl | simp, by first | rfl | simp [MS.q]⟩
    simp only [hm, if_true]
    simp -dsimp [go_sem, hN, Y.len, Y.loc, Y.loc1]
    refine cnd (fun hx => ?_) (fun hx => ?_) <;> simp at hx
    · simp only [hx, if_true]
      simp -dsimp [go_sem, hN, Y.len, Y.loc, Y.loc1]
      refine tcall (c_machine_block hF hC t.body hbody (Y.ext [_, _] (by simp [hUnder, AObj.under, AV.under, underL])) s1 (h1.1.mono (by omega) (by omega))) ?_
      rintro r h' ⟨rfl, rfl⟩
      rcases blkI C t.body s1 with ⟨z | ⟨⟩, s2⟩ <;> simp -dsimp [go_sem, hN, endU] <;> exact ⟨_, .refl _, K s2.q, by simp [go_sem], by first | exact hwk.refl _ | exact hwk.app0 _ | simp [hwk.refl], by simp [Y.len], Y.und' _, by first | rfl | simp, by first | rfl | simp [MS.q]⟩
    · simp only [hx, if_false]
      simp -dsimp [go_sem, hN, Y.len, Y.loc, Y.loc1]
      refine tcall (c_machine_block hF hC t.els hels (Y.ext [_, _] (by simp [hUnder, AObj.under, AV.under, underL])) s1 (h1.1.mono (by omega) (by omega))) ?_
      rintro r h' ⟨rfl, rfl⟩
      rcases blkI C t.els s1 with ⟨z | ⟨⟩, s2⟩ <;> simp -dsimp [go_sem, hN, endU] <;> exact ⟨_, .refl _, K s2.q, by simp [go_sem], by first | exact hwk.refl _ | exact hwk.app0 _ | simp [hwk.refl], by simp [Y.len], Y.und' _, by first | rfl | simp, by first | rfl | simp [MS.q]⟩
  simp only [h5, if_false]
  simp -dsimp [go_sem, hN, Y.len, Y.loc]
  refine cnd (fun h6 => ?_) (fun h6 => ?_) <;> simp at h6
  · rw [if_pos h6]
    simp -dsimp [go_sem, hN, Y.len, Y.loc]
    refine tcall (c_machine_loop hF hC (Y.ext [_] (by simp [hUnder, AObj.under, AV.under, underL])) t h6 hG s hI (fun Y' s' hI' => c_machine_block hF hC t.body hbody Y' s' hI')) ?_
    rintro r h' ⟨rfl, rfl⟩
    rcases stI C t s with ⟨z | ⟨⟩, s2⟩ <;> simp -dsimp [go_sem, hN, endU] <;> exact ⟨_, .refl _, K s2.q, by simp [go_sem], by first | exact hwk.refl _ | exact hwk.app0 _ | simp [hwk.refl], by simp [Y.len], Y.und' _, by first | rfl | simp, by first | rfl | simp [MS.q]⟩
  simp only [h6, if_false]
  simp -dsimp [go_sem, hN, Y.len, Y.loc]
  refine cnd (fun h7 => ?_) (fun h7 => ?_) <;> simp at h7
  · simp only [h7, if_true]
    have ha := hA (by omega)
    have h1 := hI.eval hC (r := 4097) ha
    simp -dsimp [go_sem, hN, Y.len, Y.loc]
    refine tcall (c_machine_eval hF hC (Y.ext [_] (by simp [hUnder, AObj.under, AV.under, underL])) s t.a ha.1 hI.rng hI.ar (by have := ha.2; omega)) ?_
    rintro r h' ⟨rfl, rfl⟩
    rcases hE : evE C t.a s with ⟨z | u, s1⟩
    · simp -dsimp [go_sem, hN, endV, endU]
      exact ⟨_, .refl _, K s1.q, by simp [go_sem], by first | exact hwk.refl _ | exact hwk.app0 _ | simp [hwk.refl], by simp [Y.len], Y.und' _, by first | rfl | simp, by first | rfl | simp [MS.q]⟩
    rw [hE] at h1
    simp only at h1
    dsimp only
    have hot := h1.1.ot
    simp -dsimp [go_sem, hN, endV, Y.len, Y.loc, Y.loc1]
    repeat refine ⟨by grind, ?_⟩
    refine tcall (c_must (decide (u.k = 1) || decide (u.k = 2)) _) ?_
    rintro r h' ⟨⟨hm, rfl⟩ | ⟨hm, rfl⟩, rfl⟩ <;> simp at hm
    rotate_left
    · simp -dsimp [go_sem, hN, endU, hm]
      exact ⟨_, .refl _, K s1.q, by simp [go_sem], by first | exact hwk.refl _ | exact hwk.app0 _ | simp [hwk.refl], by simp [Y.len], Y.und' _, by first | rfl | simp, by first | rfl | simp [MS.q]⟩
    simp only [hm, if_true]
    simp -dsimp [go_sem, hN, Y.len, Y.loc, Y.loc1]
    refine tcall (c_machine_emit (Y.ext [_, _] (by simp [hUnder, AObj.under, AV.under, underL])) s1 u (by omega)) ?_
    rintro r h' ⟨rfl, rfl⟩
    rcases emitS u s1 with ⟨z | ⟨⟩, s2⟩ <;> simp -dsimp [go_sem, hN, endU] <;> exact ⟨_, .refl _, K s2.q, by simp [go_sem], by first | exact hwk.refl _ | exact hwk.app0 _ | simp [hwk.refl], by simp [Y.len], Y.und' _, by first | rfl | simp, by first | rfl | simp [MS.q]⟩
  simp only [h7, if_false]
  simp -dsimp [go_sem, hN, Y.len, Y.loc]
  refine cnd (fun h8 => ?_) (fun h8 => ?_) <;> simp at h8
  · simp only [h8, if_true]
    simp -dsimp [go_sem, hN, Y.len, Y.loc]
    refine tcall (c_interp_abort t.max _) ?_
    rintro r h' ⟨rfl, rfl⟩
    simp -dsimp [go_sem, hN, endU]
    exact ⟨_, .refl _, K s.q, by simp [go_sem], by first | exact hwk.refl _ | exact hwk.app0 _ | simp [hwk.refl], by simp [Y.len], Y.und' _, by first | rfl | simp, by first | rfl | simp [MS.q]⟩
  · simp only [h8, if_false]
    simp -dsimp [go_sem, hN, endU]
    exact ⟨_, .refl _, K s.q, by simp [go_sem], by first | exact hwk.refl _ | exact hwk.app0 _ | simp [hwk.refl], by simp [Y.len], Y.und' _, by first | rfl | simp, by first | rfl | simp [MS.q]⟩
termination_by (SizeOf.sizeOf t, 0)
end
end Go.Proofs.YtgcdpfpffalalaaGreatDoor

set_option linter.unusedSimpArgs false
set_option linter.unusedVariables false
set_option maxRecDepth 4000
set_option maxHeartbeats 1000000
namespace Go.Proofs.YtgcdpfpffalalaaGreatDoor
open Go Go.Abs Go.Cw

theorem c_interp_wrong (h : AHeap) : ACalls Tryz.prog 32 [] h fun r h' => r = .ret (.agg wrongE.c) ∧ h' = h := by
  refine acalls_introB Tryz.func32 rfl (by kernel_rfl) (by simp [Tryz.ntmps32]) ?_
  intro E hN hh hu hb hb' hua
  rw [Tryz.ntmps32] at hN
  refine awp_of_wpC _ _ _ ?_
  simp -dsimp [go_sem, hN]
  exact ⟨_, .refl _, h, by simp [go_sem], by simp [go_sem], by simp, by simp [hu, go_sem], rfl, rfl⟩
theorem c_interp_newMachine (st : List Pr) (ft : Foot) (h : AHeap) : ACalls Tryz.prog 33 [.slice (st.map Pr.c), .agg ft.c] h fun r h' => r = .ret (.ptr (h.length + 3) 0) ∧
    h' = h ++ [.cells ft.c, .map [], .map [], .cells [.slice (st.map Pr.c), Bo ft.all, .slice (ft.reads.map sRow), .slice (ft.writes.map sRow), .mapr (h.length + 1), .mapr (h.length + 2), I 0, I 0, .nils, .nils, .nils, .nils, S em, I 0]] := by
  refine acalls_introB Tryz.func33 rfl (by kernel_rfl) (by simp [Tryz.ntmps33]) ?_
  intro E hN hh hu hb hb' hua
  rw [Tryz.ntmps33] at hN
  refine awp_of_wpC _ _ _ ?_
  simp -dsimp [go_sem, hN]
  refine ⟨by simp [liftK, liftC], _, .refl _, _, ?_, hwk.refl _, by simp, ?_, rfl, by rfl⟩
  · simp [go_sem]
  · simp [hu, hUnder_ext hu, hUnder_app, go_sem]
/-- the machine of a run, once its empty slices are arrays of its own -/
theorem MH_new (st : List Pr) (ft : Foot) (fmt : Int → Bytes) (h : AHeap) {g : Nat} {tb : AObj} {tV tS : Nat} (hg : h[g]? = some tb) (hu : hUnder h.length h = true) :
    MH ⟨st, ft.all, ft.reads, ft.writes, fmt⟩ tb tV tS g (h.length + 3) (h.length + 1) (h.length + 2) (h.length + 4) (h.length + 5) (h.length + 6)
      (fun q => h ++ [.cells ft.c, .map (kAV vAV q.vars), .map (kAV vAV q.own), .cells (mC ⟨st, ft.all, ft.reads, ft.writes, fmt⟩ (h.length + 1) (h.length + 2) (h.length + 4) (h.length + 5) (h.length + 6) q), .arr tV 3 (q.out.map V.c), .uarr tS 1 (q.reads.map sRow), .uarr tS 1 (q.puts.map sRow)]) (h.length + 7) := by
  have hgl : g < h.length := (List.getElem?_eq_some_iff.1 hg).1
  constructor
  case lg => intro q; rw [List.getElem?_append_left hgl]; exact hg
  case len => intro q; simp
  case und =>
    intro q
    have hk := fun l => kAV_und (f := vAV) (fun n a => by simp [AV.under, V.c, underL]) (h.length + 7) l
    rw [hUnder_app, hUnder_mono (Nat.le_add_right _ _) hu]
    simp [hUnder, hk]
    simp [AObj.under, AV.under, underL, mC, Foot.c]
  all_goals first
    | omega
    | (intros; simp [List.set_append_right]; done)
    | (intros; simp [List.set_append_right, mC]; done)
    | (intros; simp [hUnder_app, hUnder_mono (Nat.le_add_right _ _) hu, hUnder, AObj.under, AV.under, underL, mC]; done)
end Go.Proofs.YtgcdpfpffalalaaGreatDoor

set_option linter.unusedSimpArgs false
set_option linter.unusedVariables false
set_option maxRecDepth 4000
set_option maxHeartbeats 1000000
namespace Go.Proofs.YtgcdpfpffalalaaGreatDoor
open Go Go.Abs Go.Cw
attribute [local go_sem] Cnt.c

theorem c_cost_Check (p : Proc) : APure Tryz.prog 20 [.agg p.c] (I (costErr p)) := by
  refine apure_introB Tryz.func20 rfl (by kernel_rfl) (by simp [Tryz.ntmps20]) rfl ?_
  intro E h hN hh hu hb
  rw [Tryz.ntmps20] at hN
  refine awp_of_wpC _ _ _ ?_
  rw [costErr]
  simp -dsimp [go_sem, hN]
  refine tcall_pure (c_determinism_Check p) ?_
  simp -dsimp [go_sem, hN]
  refine cnd (fun h0 => ?_) (fun h0 => ?_) <;> simp at h0
  · simp -dsimp [go_sem, hN]
    exact fun k => absurd k h0
  rw [if_neg (by simpa using h0)]
  simp -dsimp [go_sem, hN]
  refine tcall_pure (c_cost_block p.body) ?_
  simp -dsimp [go_sem, hN]
  refine cnd (fun h1 => ?_) (fun h1 => ?_) <;> simp at h1
  · simp -dsimp [go_sem, hN]
    exact fun k => absurd k (by omega)
  rw [if_neg (by omega)]
  simp -dsimp [go_sem, hN]
  refine cnd (fun h2 => ?_) (fun h2 => ?_) <;> simp at h2
  · simp -dsimp [go_sem, hN]
    refine cnd (fun _ => ?_) (fun k => by simp at k; omega)
    simp -dsimp [go_sem, hN]
    exact fun _ => (by omega)
  simp -dsimp [go_sem, hN]
  refine cnd (fun h3 => ?_) (fun h3 => ?_) <;> simp at h3
  · simp -dsimp [go_sem, hN]
    refine cnd (fun _ => ?_) (fun k => by simp at k; omega)
    simp -dsimp [go_sem, hN]
    exact fun _ => (by omega)
  simp -dsimp [go_sem, hN]
  refine cnd (fun h4 => ?_) (fun h4 => ?_) <;> simp at h4
  · simp -dsimp [go_sem, hN]
    exact fun _ => (by omega)
  simp -dsimp [go_sem, hN]
  omega
end Go.Proofs.YtgcdpfpffalalaaGreatDoor

set_option linter.unusedSimpArgs false
set_option linter.unusedVariables false
set_option maxRecDepth 4000
set_option maxHeartbeats 1000000
namespace Go.Proofs.YtgcdpfpffalalaaGreatDoor
open Go Go.Abs Go.Cw
attribute [local go_sem] mC

variable {C : Cfg} {v o io ir ip : Nat}

theorem c_machine_finish_stop {h : AHeap} {m : Nat} (q : MQ) (hm : h[m]? = some (.cells (mC C v o io ir ip q))) (hir : h[ir]? = some (.arr 9 1 (q.reads.map sRow))) (hip : h[ip]? = some (.arr 9 1 (q.puts.map sRow)))
    (hr : q.nr = q.reads.length) (hp : q.np = q.puts.length) (z : Stop) :
    ACalls Tryz.prog 34 [.ptr m 0, .agg [I z.status, I z.code, .slice [], S z.miss], Bo true] h fun r h' => r = .ret (.agg [I z.status, I z.code, .slice [], .slice (q.reads.map sRow), .slice (q.puts.map sRow), .slice [], S z.miss, I q.steps]) ∧ h' = h := by
  refine acalls_introB Tryz.func34 rfl (by kernel_rfl) (by simp [Tryz.ntmps34]) ?_
  intro E hN hh hu hb hb' hua
  rw [Tryz.ntmps34] at hN
  refine awp_of_wpC _ _ _ ?_
  have lm : m < h.length := (List.getElem?_eq_some_iff.1 hm).1
  have lr : ir < h.length := (List.getElem?_eq_some_iff.1 hir).1
  have lp : ip < h.length := (List.getElem?_eq_some_iff.1 hip).1
  have gm : ∀ l : AHeap, (h ++ l)[m]? = some (.cells (mC C v o io ir ip q)) := fun l => by rw [List.getElem?_append_left lm]; exact hm
  have gr : ∀ l : AHeap, (h ++ l)[ir]? = some (.arr 9 1 (q.reads.map sRow)) := fun l => by rw [List.getElem?_append_left lr]; exact hir
  have gp : ∀ l : AHeap, (h ++ l)[ip]? = some (.arr 9 1 (q.puts.map sRow)) := fun l => by rw [List.getElem?_append_left lp]; exact hip
  simp -dsimp [go_sem, hN, gm]
  refine awp_drawG 6 mixed (by kernel_rfl) ?_
  simp -dsimp [go_sem, hN]
  refine ⟨by simp [sepD, List.zipIdx], ?_⟩
  try simp -dsimp [go_sem, hN]
  refine ⟨_, .refl _, h, by simp [go_sem, gr, gp, hr, hp], hwk.app0 _, Nat.le_refl _, hu, ?_, rfl⟩
  simp [gr, gp, hr, hp]
@[simp] theorem getD_vAV (o : Option V) : (Option.map vAV o).getD (.agg [I 0, I 0, S ⟨#[]⟩]) = .agg (o.getD V.nil).c := by cases o <;> rfl
def wrP (own : List (Bytes × V)) (k : Bytes) : Pr := ⟨k, (kGet own k).getD V.nil⟩
theorem c_machine_finish_ok {h : AHeap} {m : Nat} (q : MQ) (hm : h[m]? = some (.cells (mC C v o io ir ip q))) (hio : h[io]? = some (.arr 41 3 (q.out.map V.c))) (hir : h[ir]? = some (.arr 9 1 (q.reads.map sRow))) (hip : h[ip]? = some (.arr 9 1 (q.puts.map sRow)))
    (ho : h[o]? = some (.map (kAV vAV q.own))) (hn : q.no = q.out.length) (hr : q.nr = q.reads.length) (hp : q.np = q.puts.length) (hl : q.puts.length + 1 ≤ 68719476736) :
    ACalls Tryz.prog 34 [.ptr m 0, .agg [I 0, I 0, .slice [], S em], Bo false] h fun r h' => r = .ret (.agg [I 1, I 0, .slice (q.out.map V.c), .slice (q.reads.map sRow), .slice (q.puts.map sRow), .slice ((q.puts.map (wrP q.own)).map Pr.c), S em, I q.steps]) ∧ h' = h := by
  obtain ⟨qv, qo, qout, qr, qp, qno, qnr, qnp, qs⟩ := q
  simp only at hn hr hp hl
  subst hn; subst hr; subst hp
  simp only at hio hir hip ho
  refine acalls_introB Tryz.func34 rfl (by kernel_rfl) (by simp [Tryz.ntmps34]) ?_
  intro E hN hh hu hb hb' hua
  rw [Tryz.ntmps34] at hN
  refine awp_of_wpC _ _ _ ?_
  have lm : m < h.length := (List.getElem?_eq_some_iff.1 hm).1
  have lo : o < h.length := (List.getElem?_eq_some_iff.1 ho).1
  have lio : io < h.length := (List.getElem?_eq_some_iff.1 hio).1
  have lr : ir < h.length := (List.getElem?_eq_some_iff.1 hir).1
  have lp : ip < h.length := (List.getElem?_eq_some_iff.1 hip).1
  have gm : ∀ l : AHeap, (h ++ l)[m]? = some (.cells (mC C v o io ir ip ⟨qv, qo, qout, qr, qp, qout.length, qr.length, qp.length, qs⟩)) := fun l => by rw [List.getElem?_append_left lm]; exact hm
  have go : ∀ l : AHeap, (h ++ l)[o]? = some (.map (kAV vAV qo)) := fun l => by rw [List.getElem?_append_left lo]; exact ho
  have gi : ∀ l : AHeap, (h ++ l)[io]? = some (.arr 41 3 (qout.map V.c)) := fun l => by rw [List.getElem?_append_left lio]; exact hio
  have gr : ∀ l : AHeap, (h ++ l)[ir]? = some (.arr 9 1 (qr.map sRow)) := fun l => by rw [List.getElem?_append_left lr]; exact hir
  have gp : ∀ l : AHeap, (h ++ l)[ip]? = some (.arr 9 1 (qp.map sRow)) := fun l => by rw [List.getElem?_append_left lp]; exact hip
  simp -dsimp [go_sem, hN, gm, gp]
  refine awp_loopN qp.length (fun n => True) (fun n => ⟨[(0, .ptr m 0), (6, .ptr (h.length + 1) 0), (7, .ptr (h.length + 2) 0), (25, .slice (qp.map sRow)), (26, I qp.length), (27, I n)], h ++ [.cells [I 0, I 0, .slice [], S em], .cells [I 0, I 0, .nils, .nils, .nils, .nils, S em, I 0], .cells [I 1, I 0, .own io qout.length, .own ir qr.length, .own ip qp.length, .own (h.length + 3) n, S em, I qs], .arr 44 4 (((qp.take n).map (wrP qo)).map Pr.c)]⟩) trivial ((nilc_wk E _ (p := h.length + 2) (j := 5) (t := 44) (sz := 4) (xs := [I 1, I 0, .own io qout.length, .own ir qr.length, .own ip qp.length, .nils, S em, I qs]) (by simp) rfl).trans ?_) ?_
  · simp
    exact (norm_wk E _).trans (Wk.mk (by simp [hh]) (by simp [go_sem]) (by simp [hu, hUnder_ext hu, go_sem]; omega) (by simp [go_sem, gp]; omega))
  intro n hn' _
  have hw := wrapS hn' (by omega)
  simp -dsimp [go_sem, hN]
  refine cnd (fun hc => ?_) (fun hc => ?_) <;> simp at hc
  · simp -dsimp [go_sem, hN, hc]
    refine awp_drawQ 11 mixed (by kernel_rfl) (by kernel_rfl) ?_
    simp -dsimp [go_sem, hN, gm, go, hw]
    refine ⟨by omega, by omega, hc, ?_⟩
    rw [show (qp.map (Pr.c ∘ wrP qo)).take (n + 1) = (qp.map (Pr.c ∘ wrP qo)).take n ++ [Pr.c (wrP qo qp[n])] by rw [List.take_succ_eq_append_getElem (by simpa using hc)]; simp]
    exact Wk.mk (by simp [hh]) (by simp [go_sem, wrP]) (by simp [hu, hUnder_ext hu, go_sem]; omega) (by simp [go_sem]; omega)
  · simp -dsimp [go_sem, hN]
    have hnq : n = qp.length := by omega
    subst hnq
    rw [List.take_of_length_le (by simp)]
    refine ⟨_, .refl _, h, by simp [go_sem, gi, gr, gp], hwk.app0 _, Nat.le_refl _, hu, ?_, rfl⟩
    simp [gi, gr, gp]
end Go.Proofs.YtgcdpfpffalalaaGreatDoor

set_option linter.unusedSimpArgs false
set_option linter.unusedVariables false
namespace Go.Proofs.YtgcdpfpffalalaaGreatDoor
open Go Go.Abs Go.Cw

@[simp] theorem any20 : anyT Tryz.prog 20 = true := by kernel_rfl

theorem c_run1_ret {c : Ctx} {h : AHeap} {w : World} (hs : HSim c h w) {i4 i5 : Nat} {vs : Array Value} (ha : RelL c [.ptr i4 0, .ptr i5 0] vs) :
    CallsD Tryz.prog 73 vs .returning w fun e u' w' => (∃ v, e = .returned v) ∧ u' = .returning ∧ ∃ c', HSim c' h w' ∧ (⟨12, c, h, w⟩ : Ent).ok c' h w' := by
  refine callsD_of_wpS Tryz.func73 rfl fun c₀ cs hu => ?_
  have s0 := sim_enter (N := 12) hs ha (by simp)
  refine wpS_seq (wpS_region ?_)
  simp [wpOpsS, go_sem, recoverD, hu, Exit.thenS, Tryz.ntmps73]
  obtain ⟨q1, q2, q3, q4, q5, q6, q7⟩ := c₀
  simp only at hu
  subst hu
  have s1 := s0.put (.refl c) hs (d := some 5) (by simp) (Rel.val Value.nilIface)
  refine wpS_fn (E := ⟨12, c, h, w⟩) (c₀ := ⟨q1, q2, q3, q4, .returning, q6, q7⟩) (U := .returning) (cs := cs) (fn := Tryz.f73) s1 (Ent.ok.refl 12 hs) (H := h) (n0 := h.length) (Nat.le_refl _) ?_
  refine awp_of_wpC _ _ _ ?_
  have hN : (⟨12, c, h, w⟩ : Ent).N = 12 := rfl
  have hu' := hs.hUnder
  simp -dsimp [go_sem, hN, Tryz.f73, hu']
  exact ⟨.tuple [], .refl _, h, rfl, hwk.refl _, Nat.le_refl _, hu', rfl, rfl⟩

@[simp] theorem za74 : zeroAV Tryz.prog 74 = some (.agg [I 0, I 0, .nils, S em]) := by kernel_rfl

theorem c_run1_pan {c : Ctx} {h : AHeap} {w : World} (hs : HSim c h w) {i4 i5 : Nat} {vs : Array Value} (ha : RelL c [.ptr i4 0, .ptr i5 0] vs) {st : List AV} (hst : st.length = 4) (x4 : List AV) (h4 : h[i4]? = some (.cells x4)) (hx4 : x4.length = 4) (x5 : AV) (h5 : h[i5]? = some (.cells [x5])) (h45 : i4 ≠ i5) (hds : st.all AV.one = true)
    {v : Value} (hv : Rel c (.iface 74 (.agg st)) v) :
    CallsD Tryz.prog 73 vs (.panicking [⟨v, false, false⟩]) w fun e u' w' => (∃ v, e = .returned v) ∧ u' = .panicking [⟨v, true, false⟩] ∧ ∃ c', HSim c' ((h.set i4 (.cells st)).set i5 (.cells [Bo true])) w' ∧ (⟨12, c, h, w⟩ : Ent).ok c' ((h.set i4 (.cells st)).set i5 (.cells [Bo true])) w' := by
  refine callsD_of_wpS Tryz.func73 rfl fun c₀ cs hu => ?_
  have s0 := sim_enter (N := 12) hs ha (by simp)
  refine wpS_seq (wpS_region ?_)
  simp [wpOpsS, go_sem, recoverD, hu, Exit.thenS, Tryz.ntmps73]
  have s1 := s0.put (.refl c) hs (d := some 5) (by simp) hv
  refine wpS_fn (E := ⟨12, c, h, w⟩) (c₀ := c₀) (U := .panicking [⟨v, true, false⟩]) (cs := cs) (fn := Tryz.f73) s1 (Ent.ok.refl 12 hs) (H := (h.set i4 (.cells st)).set i5 (.cells [Bo true])) (n0 := h.length) (Nat.le_refl _) ?_
  refine awp_of_wpC _ _ _ ?_
  have hN : (⟨12, c, h, w⟩ : Ent).N = 12 := rfl
  have hu' := hs.hUnder
  have l4 : i4 < h.length := (List.getElem?_eq_some_iff.1 h4).1
  have l5 : i5 < h.length := (List.getElem?_eq_some_iff.1 h5).1
  obtain ⟨a, b, d, e, rfl⟩ : ∃ a b d e, st = [a, b, d, e] := by
    match st, hst with
    | [a, b, d, e], _ => exact ⟨a, b, d, e, rfl⟩
  have hun : underL h.length [a, b, d, e] = true := by
    have := hv.under hs.dom
    simpa [AV.under] using this
  have a4 : (h ++ [AObj.cells [a, b, d, e]])[i4]? = some (.cells x4) := by rw [List.getElem?_append_left l4]; exact h4
  have a5 : ((h ++ [AObj.cells [a, b, d, e]]).set i4 (AObj.cells [a, b, d, e]))[i5]? = some (.cells [x5]) := by rw [List.getElem?_set_ne h45, List.getElem?_append_left l5]; exact h5
  simp -dsimp [go_sem, hN, Tryz.f73, hu', a4, a5, hx4]
  rw [show x4.drop 4 = [] from List.drop_eq_nil_of_le (by omega), a5]
  refine ⟨by simp, .tuple [], .refl _, _, rfl, ?_, ?_, ?_, rfl, rfl⟩
  · rw [List.set_append_left _ _ l4, List.set_append_left _ _ (by simpa using l5)]
    exact hwk.app0 _
  · simp
  · simp only [List.length_set]
    exact hUnder_set (hUnder_set hu' hun) (by simp [AObj.under, underL, AV.under])

def zs : List AV := [I 0, I 0, .slice [], S em]

theorem c_interp_run (m : AV) {g : FuncId} {first caps : List AV} {h : AHeap} {Rg R : AEnd → AHeap → Prop} (hg : ACalls Tryz.prog g (normL (h ++ [.cells [I 0, I 0, .nils, S em], .cells [Bo false]]) (first ++ caps)) (h ++ [.cells [I 0, I 0, .nils, S em], .cells [Bo false]]) Rg)
    (hR : ∀ r h', Rg r h' → h.length + 2 ≤ h'.length → (∃ x4, h'[h.length]? = some (.cells x4) ∧ x4.length = 4) ∧ (∃ x5, h'[h.length + 1]? = some (.cells [x5])) ∧ hUnder h.length (h'.take h.length) = true ∧ match r with
      | .ret _ => R (.ret (.tuple [.agg zs, Bo false])) (h'.take h.length)
      | .panic (.iface 74 (.agg st)) => st.length = 4 ∧ st.all AV.one = true ∧ underL h.length st = true ∧ R (.ret (.tuple [.agg st, Bo true])) (h'.take h.length)
      | _ => False) (hst' : ∀ h' st, Rg (.panic (.iface 74 (.agg st))) h' → ∀ H, normL H st = st) : ACalls Tryz.prog 35 [m, .fn (.func g) first caps] h R := by
  refine ⟨⟨_, Tryz.func35, by kernel_rfl, by kernel_rfl⟩, fun c w vs hs ha => ?_⟩
  refine calls_of_wp_defers Tryz.func35 rfl ?_
  have s0 := sim_enter (N := 10) hs ha (by simp)
  have k0 := Ent.ok.refl 10 hs
  rw [Tryz.ntmps35]
  refine wp_seq (wp_mono ((awp_opsG (E := ⟨10, c, h, w⟩) (Q := fun x e => x = .normal ∧ e = ⟨[(5, .ptr (h.length + 1) 0), (4, .ptr h.length 0), (0, m), (1, .fn (.func g) first caps)], h ++ [.cells [I 0, I 0, .nils, S em], .cells [Bo false]]⟩) ?_) c _ w s0 k0) ?_)
  · have hN : (⟨10, c, h, w⟩ : Ent).N = 10 := rfl
    simp -dsimp [go_sem, hN]
  rintro ex a1 w1 ⟨x', e1, c1, ⟨rfl, rfl⟩, hx, s1, k1⟩
  cases ex <;> simp only [XR] at hx
  show Code.wp _ _ _ a1 w1
  have t4 := s1.tmps 4
  have t5 := s1.tmps 5
  have t1 := s1.tmps 1
  simp [lookT] at t4 t5 t1
  refine wp_seq (wp_region_list ?_)
  have sz : a1.tmps.size = 10 := s1.size
  have df : a1.defers = [] := s1.defers
  obtain ⟨tm, dfs⟩ := a1
  simp only at sz df
  subst df
  simp [wpList, go_sem, Oper.wp, Oper.upon, Instr.makeFunc, sz]
  refine .inl (.inl ?_)
  have s3 := s1.put (.refl c1) s1.hs (d := some 6) (by simp) (Rel.top (Value.func (Fn.func 73) #[] #[tm[4], tm[5]]))
  have E3 : ({ tmps := tm.setIfInBounds 6 (Value.func (Fn.func 73) #[] #[tm[4], tm[5]]), defers := [{ target := Target.fn (Fn.func 73) #[tm[4], tm[5]], args := #[] }] } : Act) = ddf [{ target := Target.fn (Fn.func 73) #[tm[4], tm[5]], args := #[] }] (({ tmps := tm, defers := [] } : Act).put (some 6) (Value.func (Fn.func 73) #[] #[tm[4], tm[5]])) := rfl
  rw [E3]
  have hd4 : ∀ c', c1.le c' → RelL c' [.ptr h.length 0, .ptr (h.length + 1) 0] #[tm[4], tm[5]] := fun c' hle => ⟨rfl, fun j x v hx hv => by
    match j with
    | 0 => simp at hx hv; subst hx; subst hv; simpa [sz] using t4.mono hle
    | 1 => simp at hx hv; subst hx; subst hv; simpa [sz] using t5.mono hle
    | j + 2 => simp at hx⟩
  -- what stands behind the deferred call
  have fin : ∀ (c5 : Ctx) (e5 : Env) (a5 : Act) (w5 : World) (hf : AHeap) (st : List AV) (b : Bool), Sim 10 c5 e5 a5 w5 → (⟨10, c, h, w⟩ : Ent).ok c5 e5.h w5 → lookT e5.t 4 = .ptr h.length 0 → lookT e5.t 5 = .ptr (h.length + 1) 0 →
      e5.h[h.length]? = some (.cells st) → st.length = 4 → underL h.length (normL e5.h st) = true → e5.h[h.length + 1]? = some (.cells [Bo b]) → hwk e5.h hf → hf.length = h.length → hUnder h.length hf = true → R (.ret (.tuple [.agg (normL e5.h st), Bo b])) hf →
      ∃ v, (results Tryz.f35 a5.tmps).run Tryz.prog w5 = .ok v w5 ∧ ∃ r h', R r h' ∧ ∃ x, EndR x r (.returned v) ∧ HSim x h' w5 ∧ (⟨0, c, h, w⟩ : Ent).ok x h' w5 := by
    intro c5 e5 a5 w5 hf st b s5 k5 l4 l5 g4 hst hun g5 hw hl hu hRR
    obtain ⟨v, hv, hr⟩ := results_ok (E := ⟨10, c, h, w⟩) (P := Tryz.prog) s5 Tryz.f35 (by
      simp [Tryz.f35, go_sem, l4, l5, g4, g5, hst])
    have hval : (mkRes ((Tryz.f35).results.toList.map fun r => (resSV Tryz.prog e5 r).val)) = .tuple [.agg st, Bo b] := by
      have ht : st.take 4 = st := List.take_of_length_le (by omega)
      simp [Tryz.f35, go_sem, l4, l5, g4, g5, ht]
    rw [hval] at hr
    obtain ⟨c6, q1, q2, q3⟩ := finish (E := ⟨10, c, h, w⟩) s5 k5 hr (r' := .tuple [.agg (normL e5.h st), Bo b]) (h' := hf) (by simp [AV.norm, normL]) (by simp [AV.under, underL, hl]; exact hun) hw (by simp [hl]) (by rw [hl]; exact hu)
    exact ⟨v, hv, _, hf, hRR, c6, q3, q1, q2.withN 0⟩
  have k3 : (⟨10, c1, h ++ [.cells [I 0, I 0, .nils, S em], .cells [Bo false]], w1⟩ : Ent).ok c1 (h ++ [.cells [I 0, I 0, .nils, S em], .cells [Bo false]]) w1 := Ent.ok.refl 10 s1.hs
  refine wp_seq (wp_region_list (wpList_ddf (Q := conc ⟨10, c1, h ++ [.cells [I 0, I 0, .nils, S em], .cells [Bo false]], w1⟩ fun x e => match x with
    | .normal => (∃ v, Rg (.ret v) e.h) ∧ lookT e.t 4 = .ptr h.length 0 ∧ lookT e.t 5 = .ptr (h.length + 1) 0
    | .panic v => Rg (.panic v) e.h ∧ lookT e.t 4 = .ptr h.length 0 ∧ lookT e.t 5 = .ptr (h.length + 1) 0
    | _ => False) ?_ ((opsG_sound (E := ⟨10, c1, h ++ [.cells [I 0, I 0, .nils, S em], .cells [Bo false]], w1⟩) _ [] _ rfl ?_) c1 _ w1 s3 k3)))
  · rintro x a w2 ⟨x', e2, c2, hq, hx, s2, k2⟩
    have hle : c1.le c2 := k2.ext
    have hlen : h.length + 2 ≤ e2.h.length := by simpa using k2.len
    cases x' with
    | normal =>
      cases x <;> simp only [XR] at hx
      obtain ⟨⟨v, hv⟩, l4, l5⟩ := hq
      obtain ⟨⟨x4, g4, lx4⟩, ⟨x5, g5⟩, hu2, hRR⟩ := hR _ _ hv hlen
      show Code.wp _ _ _ _ _
      have n4 : h.length < e2.h.length := by omega
      have n5 : h.length + 1 < e2.h.length := by omega
      refine wp_seq (wp_region_list (wpList_ddf (Q := conc ⟨10, c2, e2.h, w2⟩ fun x e => x = .normal ∧ e.h = (e2.h.set h.length (.cells [I 0, I 0, .nils, S em])).set (h.length + 1) (.cells [Bo false]) ∧ lookT e.t 4 = .ptr h.length 0 ∧ lookT e.t 5 = .ptr (h.length + 1) 0) ?_ ((opsG_sound (E := ⟨10, c2, e2.h, w2⟩) _ [] _ rfl ?_) c2 _ w2 s2 (Ent.ok.refl 10 s2.hs))))
      · rintro x a w3 ⟨x', e3, c3, ⟨rfl, h3, l4', l5'⟩, hx, s3', k3'⟩
        cases x <;> simp only [XR] at hx
        show Code.wp _ _ _ _ _
        refine wp_ret ?_
        have hle3 : c1.le c3 := hle.trans k3'.ext
        show Leaves _ _ _ _ (a.defers ++ _) _ _
        rw [s3'.defers, List.nil_append]
        refine leaves_cons (f := 73) (args := #[tm[4], tm[5]]) (by simp) (by simp [invoke]) ((c_run1_ret s3'.hs (hd4 c3 hle3)).mono ?_)
        rintro en u' w4 ⟨⟨v4, rfl⟩, rfl, c4, s4, k4⟩
        have sim4 : Sim 10 c4 e3 a w4 := ⟨s3'.defers, s3'.size, fun i => (s3'.tmps i).mono k4.ext, s4⟩
        have e3a : e3.h[h.length]? = some (.cells [I 0, I 0, .nils, S em]) := by rw [h3]; simp [n4]
        have e3b : e3.h[h.length + 1]? = some (.cells [Bo false]) := by rw [h3]; simp [n5]
        have kk : (⟨10, c, h, w⟩ : Ent).ok c4 e3.h w4 := ((k1.trans k2).trans k3').trans k4
        obtain ⟨v5, h5, h6⟩ := fin c4 e3 a w4 (e2.h.take h.length) [I 0, I 0, .nils, S em] false sim4 kk l4' l5' e3a rfl (by simp [normL, AV.norm, underL, AV.under]) e3b (by
          rw [h3]
          exact hwk_take2 (by omega)) (by simp; omega) hu2 (by simpa [normL, AV.norm, zs] using hRR)
        exact ⟨v5, h5, h6⟩
      · have hN : (⟨10, c2, e2.h, w2⟩ : Ent).N = 10 := rfl
        have g5' : (e2.h.set h.length (AObj.cells [I 0, I 0, .nils, S em]))[h.length + 1]? = some (.cells [x5]) := by rw [List.getElem?_set_ne (by omega)]; exact g5
        simp -dsimp [go_sem, hN, l4, l5, g4, g5, lx4]
        try rw [show x4.drop 4 = [] from List.drop_eq_nil_of_le (by omega)]
        try simp -dsimp [go_sem, g5', l4, l5]
    | panic v =>
      obtain ⟨hv, l4, l5⟩ := hq
      obtain ⟨⟨x4, g4, lx4⟩, ⟨x5, g5⟩, hu2, hRR⟩ := hR _ _ hv hlen
      split at hRR
      · rename_i he; cases he
      · rename_i st he
        cases he
        obtain ⟨hst, hone, hun, hRR⟩ := hRR
        cases x with
        | panic ch =>
          cases ch with
          | nil => simp [XR] at hx
          | cons p l =>
            cases l with
            | cons => simp [XR] at hx
            | nil =>
              obtain ⟨u, rc, gx⟩ := p
              cases rc <;> cases gx <;> simp only [XR] at hx
              show Leaves _ _ _ _ (a.defers ++ _) _ _
              rw [s2.defers, List.nil_append]
              refine leaves_cons (f := 73) (args := #[tm[4], tm[5]]) (by simp) (by simp [invoke]) ((c_run1_pan s2.hs (hd4 c2 hle) hst x4 g4 lx4 x5 g5 (by omega) hone hx).mono ?_)
              rintro en u' w4 ⟨⟨v4, rfl⟩, rfl, c4, s4, k4⟩
              have n4 : h.length < e2.h.length := by omega
              have n5 : h.length + 1 < e2.h.length := by omega
              have sim4 : Sim 10 c4 ⟨e2.t, (e2.h.set h.length (.cells st)).set (h.length + 1) (.cells [Bo true])⟩ a w4 := ⟨s2.defers, s2.size, fun i => (s2.tmps i).mono k4.ext, s4⟩
              have kk : (⟨10, c, h, w⟩ : Ent).ok c4 ((e2.h.set h.length (.cells st)).set (h.length + 1) (.cells [Bo true])) w4 := (k1.trans k2).trans k4
              have hnorm : normL ((e2.h.set h.length (.cells st)).set (h.length + 1) (.cells [Bo true])) st = st := hst' _ _ hv _
              obtain ⟨v5, h5, h6⟩ := fin c4 ⟨e2.t, (e2.h.set h.length (.cells st)).set (h.length + 1) (.cells [Bo true])⟩ a w4 (e2.h.take h.length) st true sim4 kk l4 l5 (by simp [n4]) hst (by rw [hnorm]; exact hun) (by simp [n5]) (hwk_take2 (by omega)) (by simp; omega) hu2 (by rw [hnorm]; exact hRR)
              exact ⟨v5, h5, h6⟩
        | _ => simp [XR] at hx
      · exact hRR.elim
    | _ => exact hq.elim
  · have hN : (⟨10, c1, h ++ [.cells [I 0, I 0, .nils, S em], .cells [Bo false]], w1⟩ : Ent).N = 10 := rfl
    simp -dsimp [go_sem, hN]
    refine tcall hg fun r h' hr => ?_
    cases r <;> simp [go_sem, hr]
    exact ⟨_, hr⟩
end Go.Proofs.YtgcdpfpffalalaaGreatDoor

set_option linter.unusedSimpArgs false
set_option linter.unusedVariables false
set_option maxRecDepth 4000
set_option maxHeartbeats 2000000
namespace Go.Proofs.YtgcdpfpffalalaaGreatDoor
open Go Go.Abs Go.Cw
attribute [local go_sem] mC

theorem kAV_vAV_und (n : Nat) (l : List (Bytes × V)) : (AObj.map (kAV vAV l)).under n = true := kAV_und (f := vAV) (fun n a => by simp [AV.under, V.c, underL]) n l
theorem kAV_u2 (n : Nat) (l : List (Bytes × V)) : (∀ (a b : AV), (a, b) ∈ kAV vAV l → AV.under n a = true ∧ AV.under n b = true) = True := by
  refine eq_true fun a b hab => ?_
  obtain ⟨s, x, rfl, rfl⟩ := kAV_mem hab
  simp [AV.under, V.c, underL]
theorem setArgs_nil (m : List (Bytes × V)) : setArgs [] [] m = m := rfl
/-- the machine of a run among other objects -/
theorem MH_run (st : List Pr) (ft : Foot) (fmt : Int → Bytes) (h A L : AHeap) {g : Nat} {tb : AObj} {tV tS : Nat} (hg : h[g]? = some tb) (hu : hUnder h.length h = true) (a l : Nat) (hA : A.length = a) (hL : L.length = l) (uA : hUnder (h.length + (a + l + 7)) A = true) (uL : hUnder (h.length + (a + l + 7)) L = true) :
    MH (cfgR fmt st ft) tb tV tS g (h.length + (a + 3)) (h.length + (a + 1)) (h.length + (a + 2)) (h.length + (a + l + 4)) (h.length + (a + l + 5)) (h.length + (a + l + 6))
      (fun q => h ++ (A ++ (.cells ft.c :: .map (kAV vAV q.vars) :: .map (kAV vAV q.own) :: .cells (mC (cfgR fmt st ft) (h.length + (a + 1)) (h.length + (a + 2)) (h.length + (a + l + 4)) (h.length + (a + l + 5)) (h.length + (a + l + 6)) q) :: (L ++ [.arr tV 3 (q.out.map V.c), .uarr tS 1 (q.reads.map sRow), .uarr tS 1 (q.puts.map sRow)])))) (h.length + (a + l + 7)) := by
  have hgl : g < h.length := (List.getElem?_eq_some_iff.1 hg).1
  subst hA; subst hL
  have e1 : ∀ (X : AHeap) (k : Nat), (h ++ X)[h.length + k]? = X[k]? := fun X k => by rw [List.getElem?_append_right (by omega)]; congr 1; omega
  have e2 : ∀ (X : AHeap) (k : Nat), (A ++ X)[A.length + k]? = X[k]? := fun X k => by rw [List.getElem?_append_right (by omega)]; congr 1; omega
  have e3 : ∀ (X : AHeap) (k : Nat), (L ++ X)[L.length + k]? = X[k]? := fun X k => by rw [List.getElem?_append_right (by omega)]; congr 1; omega
  have s1 : ∀ (X : AHeap) (k : Nat) (y : AObj), (h ++ X).set (h.length + k) y = h ++ X.set k y := fun X k y => by rw [List.set_append_right _ _ (by omega)]; congr 2; omega
  have s2 : ∀ (X : AHeap) (k : Nat) (y : AObj), (A ++ X).set (A.length + k) y = A ++ X.set k y := fun X k y => by rw [List.set_append_right _ _ (by omega)]; congr 2; omega
  have s3 : ∀ (X : AHeap) (k : Nat) (y : AObj), (L ++ X).set (L.length + k) y = L ++ X.set k y := fun X k y => by rw [List.set_append_right _ _ (by omega)]; congr 2; omega
  have e4 : ∀ (a b c d : AObj) (X : AHeap) (k : Nat), (a :: b :: c :: d :: (L ++ X))[L.length + 4 + k]? = X[k]? := fun a b c d X k => by
    rw [show L.length + 4 + k = (L.length + k) + 1 + 1 + 1 + 1 by omega]
    simp only [List.getElem?_cons_succ]
    exact e3 X k
  have s4 : ∀ (a b c d y : AObj) (X : AHeap) (k : Nat), (a :: b :: c :: d :: (L ++ X)).set (L.length + 4 + k) y = a :: b :: c :: d :: (L ++ X.set k y) := fun a b c d y X k => by
    rw [show L.length + 4 + k = (L.length + k) + 1 + 1 + 1 + 1 by omega]
    simp only [List.set_cons_succ]
    rw [s3]
  have i0 : h.length + (A.length + L.length + 4) = h.length + (A.length + (L.length + 4 + 0)) := by omega
  have i1 : h.length + (A.length + L.length + 5) = h.length + (A.length + (L.length + 4 + 1)) := by omega
  have i2 : h.length + (A.length + L.length + 6) = h.length + (A.length + (L.length + 4 + 2)) := by omega
  constructor
  case lg => intro q; rw [List.getElem?_append_left hgl]; exact hg
  case len => intro q; simp; omega
  case und =>
    intro q
    rw [hUnder_app, hUnder_mono (Nat.le_add_right _ _) hu, hUnder_app, uA]
    simp only [hUnder, kAV_vAV_und, hUnder_app, uL, Bool.true_and, Bool.and_true]
    simp [AObj.under, AV.under, underL, mC, Foot.c]
    omega
  case lm => intro q; rw [e1, e2]; rfl
  case lv => intro q; rw [e1, e2]; rfl
  case lo => intro q; rw [e1, e2]; rfl
  case lio => intro q; rw [i0, e1, e2, e4]; rfl
  case lir => intro q; rw [i1, e1, e2, e4]; rfl
  case lip => intro q; rw [i2, e1, e2, e4]; rfl
  case sm => intro q no nr np s; rw [s1, s2]; rfl
  case sv => intro q x; rw [s1, s2]; rfl
  case so => intro q x; rw [s1, s2]; rfl
  case sio => intro q x; simp only [i0, s1, s2, s4]; rfl
  case sir => intro q x; simp only [i1, s1, s2, s4]; rfl
  case sip => intro q x; simp only [i2, s1, s2, s4]; rfl
  all_goals omega

variable {C : Cfg} {tT : TypeId} {tx : Nat × Nat} {g m v o io ir ip : Nat} {K : MQ → AHeap} {n0 : Nat}
theorem c_interp_Run1 (hF : C.fmt = fmtI) (hC : rngC C) (p : Proc) (hG : ∀ x ∈ p.body, goS x) (Y : MHs C tT tx g m v o io ir ip K n0) (s : MS) (hI : Cw.Inv 0 0 s) {a b : Nat} (ha : ∀ q, (K q)[a]? = some (.cells [.ptr m 0])) (hb0 : ∀ q, (K q)[b]? = some (.cells p.c)) :
    ACalls Tryz.prog 36 [.ptr a 0, .ptr b 0] (K s.q) fun r h' => r = endU (blkI C p.body s).1 ∧ h' = K (blkI C p.body s).2.q := by
  refine acalls_introB Tryz.func36 rfl (by kernel_rfl) (by simp [Tryz.ntmps36]) ?_
  intro E hN hh hu hb hb' hua
  rw [Tryz.ntmps36] at hN
  refine awp_of_wpC _ _ _ ?_
  simp -dsimp [go_sem, hN, ha, hb0]
  refine tcall (c_machine_block hF hC p.body hG Y s hI) ?_
  rintro r h' ⟨rfl, rfl⟩
  rcases blkI C p.body s with ⟨z | ⟨⟩, s1⟩ <;> simp -dsimp [go_sem, hN, endU] <;> exact ⟨_, .refl _, K s1.q, by simp [go_sem], by first | exact hwk.refl _ | exact hwk.app0 _ | simp [hwk.refl], by simp [Y.len], Y.und' _, by first | rfl | simp, by first | rfl | simp [MS.q]⟩

abbrev effZ : AObj := .cells [I 0, I 0, .nils, .nils, .nils, .nils, S em, I 0]
def endC : Except Stop Unit → List AV
  | .ok _ => zs
  | .error z => [I z.status, I z.code, .slice [], S z.miss]
def isE : Except Stop Unit → Bool
  | .ok _ => false
  | .error _ => true
@[simp] theorem norm_endC (H : AHeap) (x : Except Stop Unit) : normL H (endC x) = endC x := by cases x <;> rfl
@[simp] theorem under_endC (n : Nat) (x : Except Stop Unit) : underL n (endC x) = true := by cases x <;> rfl
/-- a run of a closure that ends as it must -/
theorem c_run_of {a : AV} {f : FuncId} {caps : List AV} {h h1 : AHeap} {x : Except Stop Unit} (hl : h1.length = h.length) (hu : hUnder h.length h1 = true) (hc : ∀ H, normL H caps = caps) (hg : ACalls Tryz.prog f caps (h ++ [.cells [I 0, I 0, .nils, S em], .cells [Bo false]]) fun r h' => r = endU x ∧ h' = h1 ++ [.cells [I 0, I 0, .nils, S em], .cells [Bo false]]) :
    ACalls Tryz.prog 35 [a, .fn (.func f) [] caps] h fun r h' => r = .ret (.tuple [.agg (endC x), Bo (isE x)]) ∧ h' = h1 := by
  refine c_interp_run a (g := f) (first := []) (caps := caps) (by rw [List.nil_append, hc]; exact hg) ?_ ?_
  · rintro r h' ⟨rfl, rfl⟩ _
    have e1 : (h1 ++ [AObj.cells [I 0, I 0, .nils, S em], AObj.cells [Bo false]])[h.length]? = some (.cells [I 0, I 0, .nils, S em]) := by rw [← hl]; simp
    have e2 : (h1 ++ [AObj.cells [I 0, I 0, .nils, S em], AObj.cells [Bo false]])[h.length + 1]? = some (.cells [Bo false]) := by rw [← hl]; simp
    have e3 : (h1 ++ [AObj.cells [I 0, I 0, .nils, S em], AObj.cells [Bo false]]).take h.length = h1 := by rw [← hl]; simp
    refine ⟨⟨_, e1, rfl⟩, ⟨_, e2⟩, by rw [e3]; exact hu, ?_⟩
    rw [e3]
    rcases x with z | u
    · exact ⟨rfl, rfl, by simp [underL, AV.under], rfl, rfl⟩
    · exact ⟨rfl, rfl⟩
  · rintro h' st ⟨h1, _⟩ H
    rcases x with z | u
    · simp only [endU, stopAV, AEnd.panic.injEq, AV.iface.injEq, AV.agg.injEq, true_and] at h1
      subst h1
      rfl
    · cases h1
/-- the end of a run, whatever it was -/
theorem c_machine_finish {h : AHeap} (x : Except Stop Unit) (s : MS) (hm : h[m]? = some (.cells (mC C v o io ir ip s.q))) (hio : h[io]? = some (.arr 41 3 (s.out.map V.c))) (hir : h[ir]? = some (.arr 9 1 (s.reads.map sRow))) (hip : h[ip]? = some (.arr 9 1 (s.puts.map sRow)))
    (ho : h[o]? = some (.map (kAV vAV s.own))) (hl : s.puts.length + 1 ≤ 68719476736) :
    ACalls Tryz.prog 34 [.ptr m 0, .agg (endC x), Bo (isE x)] h fun r h' => r = .ret (.agg (doneS (x, s)).c) ∧ h' = h := by
  rcases x with z | u
  · exact c_machine_finish_stop s.q hm hir hip rfl rfl z
  · exact c_machine_finish_ok s.q hm hio hir hip ho rfl rfl rfl hl
theorem c_interp_Run (p : Proc) (args : List V) (st : List Pr) (ft : Foot) (h : AHeap) (hg : h[g]? = some (tabO tT tx)) (hI : RunIn fmtI p args st) :
    ACalls Tryz.prog 9 [.agg p.c, .slice (args.map V.c), .slice (st.map Pr.c), .agg ft.c] h fun r h' => r = .ret (.agg (runS fmtI p args st ft).c) ∧ h' = h := by
  refine acalls_introB Tryz.func9 rfl (by kernel_rfl) (by simp [Tryz.ntmps9]) ?_
  intro E hN hh hu hb hb' hua
  rw [Tryz.ntmps9] at hN
  refine awp_of_wpC _ _ _ ?_
  simp [go_sem] at hb
  simp -dsimp [go_sem, hN]
  refine tcall_pure (c_cost_Check p) ?_
  simp -dsimp [go_sem, hN]
  refine tgcall_pure (c_types_Args p args) (by simp) ?_
  simp -dsimp [go_sem, hN]
  refine tgcall_pure (c_state_Valid st) (by simp) ?_
  simp -dsimp [go_sem, hN]
  refine tgcall_pure (c_interp_valid ft.all ft.reads ft.writes) (by simp) ?_
  simp -dsimp [go_sem, hN]
  repeat refine ⟨by grind, ?_⟩
  refine cnd (fun h0 => ?_) (fun h0 => ?_) <;> simp at h0
  · have hno : ¬ runOk p args st ft := by rw [runOk_iff]; grind
    rw [runS_no hno]
    simp -dsimp [go_sem, hN]
    refine tcall (c_interp_wrong _) ?_
    rintro r h' ⟨rfl, rfl⟩
    simp -dsimp [go_sem, hN]
    exact ⟨_, .refl _, h, by simp [go_sem], hwk.app0 _, Nat.le_refl _, hu, rfl, rfl⟩
  have hok : runOk p args st ft := by rw [runOk_iff]; grind
  have hok' := (runOk_iff _ _ _ _).1 hok
  have hlen := (argsErr_ok hok'.2.1).1
  rw [runS_yes hok]
  simp -dsimp [go_sem, hN]
  refine tcall (c_interp_newMachine st ft _) ?_
  rintro r h' ⟨rfl, rfl⟩
  simp -dsimp [go_sem, hN]
  have Y := MH_run (tb := tabO tT tx) (tV := 41) (tS := 9) st ft fmtI h [.cells p.c, .cells ft.c, effZ] [.cells [.ptr (h.length + 6) 0]] hg hu 3 1 rfl rfl (by simp [hUnder, AObj.under, AV.under, underL, Proc.c, Foot.c]) (by simp [hUnder, AObj.under, AV.under, underL])
  simp only [List.cons_append, List.nil_append, Nat.reduceAdd] at Y
  refine awp_loopA (α := List (Bytes × V)) p.params.length (fun n vs => setArgs (p.params.drop n) (args.drop n) vs = setArgs p.params args []) (fun n vs => ⟨[(1, .slice (args.map V.c)), (4, .ptr h.length 0), (8, .ptr (h.length + 2) 0), (9, .ptr (h.length + 7) 0), (36, .slice (p.params.map Param.c)), (37, I p.params.length), (38, I n)], h ++ [.cells p.c, .cells ft.c, effZ, .cells ft.c, .map (kAV vAV vs), .map (kAV vAV []), .cells (mC (cfgR fmtI st ft) (h.length + 4) (h.length + 5) (h.length + 8) (h.length + 9) (h.length + 10) ⟨vs, [], [], [], [], 0, 0, 0, 0⟩), .cells [.ptr (h.length + 6) 0], .arr 41 3 [], .uarr 9 1 [], .uarr 9 1 []]⟩) [] (by simp) ?_ ?_
  · refine (nilc_wk E _ (p := h.length + 6) (j := 8) (t := 41) (sz := 3) (xs := [.slice (st.map Pr.c), Bo ft.all, .slice (ft.reads.map sRow), .slice (ft.writes.map sRow), .mapr (h.length + 4), .mapr (h.length + 5), I 0, I 0, .nils, .nils, .nils, .nils, S em, I 0]) (by simp) rfl).trans ?_
    simp
    refine (nilcu_wk E _ (p := h.length + 6) (j := 9) (t := 9) (sz := 1) (xs := [.slice (st.map Pr.c), Bo ft.all, .slice (ft.reads.map sRow), .slice (ft.writes.map sRow), .mapr (h.length + 4), .mapr (h.length + 5), I 0, I 0, .own (h.length + 8) 0, .nils, .nils, .nils, S em, I 0]) (by simp) rfl).trans ?_
    simp
    refine (nilcu_wk E _ (p := h.length + 6) (j := 10) (t := 9) (sz := 1) (xs := [.slice (st.map Pr.c), Bo ft.all, .slice (ft.reads.map sRow), .slice (ft.writes.map sRow), .mapr (h.length + 4), .mapr (h.length + 5), I 0, I 0, .own (h.length + 8) 0, .own (h.length + 9) 0, .nils, .nils, S em, I 0]) (by simp) rfl).trans ?_
    simp [kAV, kvEnc]
    exact (Wk.mk (by simp [hh]) (by simp [go_sem]) (by simp [hu, hUnder_ext hu, go_sem]) (by simp [go_sem]))
  intro n vs hn hI2
  have hw := wrapS hn hb.1.2.1.1
  simp -dsimp [go_sem, hN]
  refine cnd (fun hc => ?_) (fun hc => ?_) <;> simp at hc
  · have hc2 : n < args.length := by omega
    simp -dsimp [go_sem, hN, hc]
    refine awp_drawQ 10 mixed (by kernel_rfl) (by kernel_rfl) ?_
    simp -dsimp [go_sem, hN, hc, hc2, hw]
    refine ⟨kSet vs p.params[n].name args[n], ?_, Wk.mk (by simp [hh]) (by simp [go_sem]) (by simp [hu, hUnder_ext hu, go_sem, kAV_u2]) (by simp [go_sem])⟩
    rw [drop_next hc, drop_next hc2, setArgs] at hI2
    exact hI2
  · rw [List.drop_eq_nil_of_le hc, List.drop_eq_nil_of_le (by omega), setArgs_nil] at hI2
    subst hI2
    obtain ⟨x, s1, hB⟩ : ∃ x s1, blkI (cfgR fmtI st ft) p.body (ms0 p args) = (x, s1) := ⟨_, _, rfl⟩
    have hd := (dl_blk (C := cfgR fmtI st ft) (fun q hq => hI.st q hq) p.body 1 (ms0 p args) (cost_okL hok'.1) (cost_goS hok'.1 hI.body) (inv0 hI)).pu
    rw [hB] at hd
    have hnl := cost_nL hok'.1
    have hlim := cost_lim hok'.1
    simp only [List.length_nil, Nat.zero_add] at hd
    have Y2 := Y.ext [.cells [I 0, I 0, .nils, S em], .cells [Bo false]] (by simp [hUnder, AObj.under, AV.under, underL])
    have hr := c_interp_Run1 (C := cfgR fmtI st ft) rfl (fun q hq => hI.st q hq) p (cost_goS hok'.1 hI.body) Y2 (ms0 p args) (inv0 hI) (a := h.length + 7) (b := h.length) (by intro q; simp) (by intro q; simp)
    rw [hB] at hr
    have hrun := c_run_of (a := .ptr (h.length + 6) 0) (by simp) (by simp [hUnder_app, hu, hUnder_mono, hUnder_ext hu, go_sem, kAV_u2, MS.q]) (fun H => by simp [normL, AV.norm]) hr
    simp -dsimp [go_sem, hN]
    refine awp_drawK 6 3 [0] mixed (by kernel_rfl) ?_
    simp -dsimp [go_sem, hN]
    refine tkcall_ret hrun ?_
    simp -dsimp [go_sem, hN]
    obtain ⟨Hd, hHd⟩ : ∃ Hd : AObj → AObj → AHeap, ∀ u1 u2, Hd u1 u2 = h ++ [.cells p.c, .cells ft.c, effZ, .cells ft.c, .map (kAV vAV s1.vars), .map (kAV vAV s1.own), .cells (mC (cfgR fmtI st ft) (h.length + 4) (h.length + 5) (h.length + 8) (h.length + 9) (h.length + 10) s1.q), .cells [.ptr (h.length + 6) 0], .arr 41 3 (s1.out.map V.c), u1, u2] := ⟨fun u1 u2 => _, fun _ _ => rfl⟩
    have hw2 : ∀ E, Wk E ⟨[], Hd (.uarr 9 1 (s1.reads.map sRow)) (.uarr 9 1 (s1.puts.map sRow))⟩ ⟨[], Hd (.arr 9 1 (s1.reads.map sRow)) (.arr 9 1 (s1.puts.map sRow))⟩ := fun E => by
      have d1 := demote_wk E ⟨[], Hd (.uarr 9 1 (s1.reads.map sRow)) (.uarr 9 1 (s1.puts.map sRow))⟩ (i := h.length + 9) (t := 9) (sz := 1) (rows := s1.reads.map sRow) (by simp [hHd])
      have d2 := demote_wk E ⟨[], Hd (.arr 9 1 (s1.reads.map sRow)) (.uarr 9 1 (s1.puts.map sRow))⟩ (i := h.length + 10) (t := 9) (sz := 1) (rows := s1.puts.map sRow) (by simp [hHd])
      refine d1.trans ?_
      have e1 : (Hd (.uarr 9 1 (s1.reads.map sRow)) (.uarr 9 1 (s1.puts.map sRow))).set (h.length + 9) (.arr 9 1 (s1.reads.map sRow)) = Hd (.arr 9 1 (s1.reads.map sRow)) (.uarr 9 1 (s1.puts.map sRow)) := by simp [hHd]
      have e2 : (Hd (.arr 9 1 (s1.reads.map sRow)) (.uarr 9 1 (s1.puts.map sRow))).set (h.length + 10) (.arr 9 1 (s1.puts.map sRow)) = Hd (.arr 9 1 (s1.reads.map sRow)) (.arr 9 1 (s1.puts.map sRow)) := by simp [hHd]
      rw [e2] at d2
      rw [e1]
      exact d2
    have hfin := c_machine_finish (C := cfgR fmtI st ft) (m := h.length + 6) (v := h.length + 4) (o := h.length + 5) (io := h.length + 8) (ir := h.length + 9) (ip := h.length + 10) (h := Hd (.arr 9 1 (s1.reads.map sRow)) (.arr 9 1 (s1.puts.map sRow))) x s1 (by simp [hHd]) (by simp [hHd]) (by simp [hHd]) (by simp [hHd]) (by simp [hHd]) (by omega)
    have hfin2 := acalls_wk hw2 hfin
    rw [hHd, hHd] at hfin2
    refine tcall hfin2 ?_
    rintro r h' ⟨rfl, rfl⟩
    simp -dsimp [go_sem, hN]
    rw [hB]
    exact ⟨_, .refl _, h, by simp [go_sem], hwk.app0 _, Nat.le_refl _, hu, rfl, rfl⟩
theorem c_interp_Free (p : Proc) (args : List V) (st : List Pr) (h : AHeap) (hg : h[g]? = some (tabO tT tx)) (hI : RunIn fmtI p args st) :
    ACalls Tryz.prog 16 [.agg p.c, .slice (args.map V.c), .slice (st.map Pr.c)] h fun r h' => r = .ret (.agg (runS fmtI p args st ⟨true, [], []⟩).c) ∧ h' = h := by
  refine acalls_introB Tryz.func16 rfl (by kernel_rfl) (by simp [Tryz.ntmps16]) ?_
  intro E hN hh hu hb hb' hua
  rw [Tryz.ntmps16] at hN
  refine awp_of_wpC _ _ _ ?_
  have hgl : g < h.length := (List.getElem?_eq_some_iff.1 hg).1
  simp -dsimp [go_sem, hN]
  refine tcall (c_interp_Run p args st ⟨true, [], []⟩ _ (g := g) (tT := tT) (tx := tx) (by rw [List.getElem?_append_left hgl]; exact hg) hI) ?_
  rintro r h' ⟨rfl, rfl⟩
  simp -dsimp [go_sem, hN]
  exact ⟨_, .refl _, h, by simp [go_sem], hwk.app0 _, Nat.le_refl _, hu, rfl, rfl⟩
end Go.Proofs.YtgcdpfpffalalaaGreatDoor
