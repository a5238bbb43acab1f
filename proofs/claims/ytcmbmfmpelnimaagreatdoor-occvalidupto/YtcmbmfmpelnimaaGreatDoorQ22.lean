/- Part 22 of a proof: W25, W26, W27, W14, W15, W16 -/
import Derived.Shelf.Small.Strs
import Derived.Shelf.Strconv.Itoa4
import Derived.Lib.ItoaLen
import Derived.Test.YtcmbmfmpelnimaaGreatDoorQ09
import Derived.Test.YtcmbmfmpelnimaaGreatDoorQ10
import Derived.Test.YtcmbmfmpelnimaaGreatDoorQ13
import Derived.Test.YtcmbmfmpelnimaaGreatDoorQ14
import Derived.Test.YtcmbmfmpelnimaaGreatDoorQ16
import Derived.Test.YtcmbmfmpelnimaaGreatDoorQ18
import Derived.Test.YtcmbmfmpelnimaaGreatDoorQ20
import Derived.Test.YtcmbmfmpelnimaaGreatDoorQ21
set_option linter.all false

set_option maxRecDepth 4000
set_option maxHeartbeats 4000000
namespace Go.Proofs.YtcmbmfmpelnimaaGreatDoor
open Go Go.Abs Go.Cw
attribute [local go_sem] mC
variable {C : Cfg} {tT : TypeId} {tx : Nat × Nat} {g m v o io ir ip : Nat}
def BlkSpec (C : Cfg) (tT : TypeId) (tx : Nat × Nat) (g m v o io ir ip : Nat) (l : List St) : Prop :=
  ∀ {K : MQ → AHeap} {n0 : Nat} (_ : MHs C tT tx g m v o io ir ip K n0) (s : MS), Inv 0 0 s → ACalls Tryz.prog 38 [.ptr m 0, .slice (l.map St.c)] (K s.q) fun r h' => r = endU (blkI C l s).1 ∧ h' = K (blkI C l s).2.q
theorem c_machine_loop (hF : C.fmt = fmtI) (hC : rngC C) {K : MQ → AHeap} {n0 : Nat} (Y : MHs C tT tx g m v o io ir ip K n0) (t : St) (hop : t.op = 6) (hG : goS t) (s : MS) (hI : Inv 8192 1 s) (hblk : BlkSpec C tT tx g m v o io ir ip t.body) :
    ACalls Tryz.prog 121 [.ptr m 0, .agg t.x] (K s.q) fun r h' => r = endU (stI C t s).1 ∧ h' = K (stI C t s).2.q := by
  refine acalls_introB Tryz.func121 rfl (by kernel_rfl) (by simp [Tryz.ntmps121]) ?_
  intro E hN hh hu hb hb' hua
  rw [Tryz.ntmps121] at hN
  refine awp_of_wpC _ _ _ ?_
  obtain ⟨op, name, mx, a, b, body, els⟩ := t
  have hG' := (goS_iff _).1 hG
  simp only [St.op, St.a, St.b, St.body, St.els] at hG' hop
  obtain ⟨hA, hB, hbody, hels⟩ := hG'
  subst hop
  have hra := (hA (by omega))
  have hrb := (hB (by omega))
  have hmn := Y.hm
  rw [stI]
  simp only [show ¬ ((6 : Int) = 1 ∨ (6 : Int) = 2) by omega, show ¬ (6 : Int) = 3 by omega, show ¬ (6 : Int) = 4 by omega, show ¬ (6 : Int) = 5 by omega, if_false, if_true]
  have hst := hI.st
  have hrd := hI.rd
  simp -dsimp [go_sem, hN, Y.len, Y.loc]
  refine tcall (c_machine_eval hF hC (Y.ext [_] (by simp [hUnder, AObj.under, AV.under, underL])) s a hra.1 hI.rng hI.ar (by have := hra.2; omega)) ?_
  rintro r h' ⟨rfl, rfl⟩
  have h1 := hI.eval hC (r := 4097) hra
  rcases hE : evE C a s with ⟨z | u, s1⟩
  · simp -dsimp [go_sem, hN, endV, endU]
    exact ⟨_, .refl _, K s1.q, by simp [go_sem], by first | exact hwk.refl _ | exact hwk.app0 _ | simp [hwk.refl], by simp [Y.len], Y.und' _, by first | rfl | simp, by first | rfl | simp [MS.q]⟩
  rw [hE] at h1
  simp only at h1
  dsimp only
  have hrd1 := h1.1.rd
  have hst1 := h1.1.st
  simp -dsimp [go_sem, hN, endV, Y.len, Y.loc, Y.loc1]
  refine tcall (c_machine_eval hF hC (Y.ext [_, _] (by simp [hUnder, AObj.under, AV.under, underL])) s1 b hrb.1 h1.1.rng h1.1.ar (by have := hrb.2; omega)) ?_
  rintro r h' ⟨rfl, rfl⟩
  have h2 := h1.1.eval hC (r := 2) hrb
  rcases hE2 : evE C b s1 with ⟨z | w, s2⟩
  · simp -dsimp [go_sem, hN, endV, endU]
    exact ⟨_, .refl _, K s2.q, by simp [go_sem], by first | exact hwk.refl _ | exact hwk.app0 _ | simp [hwk.refl], by simp [Y.len], Y.und' _, by first | rfl | simp, by first | rfl | simp [MS.q]⟩
  rw [hE2] at h2
  simp only at h2
  dsimp only
  simp -dsimp [go_sem, hN, endV, Y.len, Y.loc, Y.loc1, Y.loc2]
  refine tcall (c_must (decide (u.k = 1) && decide (w.k = 1)) _) ?_
  rintro r h' ⟨⟨hm, rfl⟩ | ⟨hm, rfl⟩, rfl⟩ <;> simp at hm
  rotate_left
  · simp -dsimp [go_sem, hN, endU]
    simp only [show ¬ (u.k = 1 ∧ w.k = 1) from fun k => hm k.1 k.2, if_false]
    exact ⟨_, .refl _, K s2.q, by simp [go_sem], by first | exact hwk.refl _ | exact hwk.app0 _ | simp [hwk.refl], by simp [Y.len], Y.und' _, by first | rfl | simp, by first | rfl | simp [MS.q]⟩
  simp only [hm.1, hm.2, and_self, if_true]
  simp -dsimp [go_sem, hN, Y.len, Y.loc, Y.loc1, Y.loc2]
  repeat refine ⟨by grind, ?_⟩
  refine cnd (fun h0 => ?_) (fun h0 => ?_) <;> simp at h0
  · have h0' : tooMany u.n w.n mx := h0
    simp -dsimp [go_sem, hN]
    refine tcall (c_interp_abort 1005 _) ?_
    rintro r h' ⟨rfl, rfl⟩
    simp -dsimp [go_sem, hN, endU, h0']
    exact ⟨_, .refl _, K s2.q, by simp [go_sem], by first | exact hwk.refl _ | exact hwk.app0 _ | simp [hwk.refl], by simp [Y.len], Y.und' _, by first | rfl | simp, by first | rfl | simp [MS.q]⟩
  have h0' : ¬ tooMany u.n w.n mx := fun k => by have h3 := h0 k.1; have := k.2; simp only [St.max] at h3; omega
  simp only [h0', if_false]
  simp -dsimp [go_sem, hN, Y.len, Y.loc, Y.loc1, Y.loc2]
  obtain ⟨L0, hL0⟩ : ∃ L0, L0 = loopS (fun y => blkI C body y) name w.n 16386 u.n s2 := ⟨_, rfl⟩
  rw [← hL0]
  refine awp_loopM (α := Nat × Int × MS) (fun x => Cw.Inv 0 0 x.2.2 ∧ i64 x.2.1 ∧ (16386 : Int) ≤ x.2.2.steps + x.1 ∧ L0 = loopS (fun y => blkI C body y) name w.n x.1 x.2.1 x.2.2)
    (fun x => ⟨[(0, .ptr m 0), (3, .ptr n0 0), (5, .ptr (n0 + 2) 0), (6, I x.2.1)], K x.2.2.q ++ [.cells (St.mk 6 name mx a b body els).x, .cells [I 1, I u.n, S u.s], .cells [I 1, I w.n, S w.s]]⟩)
    (fun x => x.1) (16386, u.n, s2) ⟨h2.1.mono (by omega) (by omega), (h1.2 _ rfl).1, by have := h2.1.pt; simp only; omega, hL0⟩ (Wk.mk (by simp [hh, Y.len]) (by simp [go_sem]) (by simp [Y.und, Y.undA, Y.len, go_sem]) (by simp [go_sem, Y.len] <;> omega)) ?_
  rintro ⟨f, i, s3⟩ ⟨hI3, hi, hf, hL⟩
  dsimp only at hI3 hi hf hL
  have hst3 := hI3.st
  obtain ⟨f, rfl⟩ : ∃ f', f = f' + 1 := ⟨f - 1, by omega⟩
  rw [loopS] at hL
  simp -dsimp [go_sem, hN, Y.len, Y.loc, Y.loc1, Y.loc2]
  refine cnd (fun hc => ?_) (fun hc => ?_) <;> simp at hc
  rotate_left
  · rw [if_neg (by omega)] at hL
    rw [hL]
    simp -dsimp [go_sem, hN, endU]
    exact ⟨_, .refl _, K s3.q, by simp [go_sem], by first | exact hwk.refl _ | exact hwk.app0 _ | simp [hwk.refl], by simp [Y.len], Y.und' _, by first | rfl | simp, by first | rfl | simp [MS.q]⟩
  rw [if_pos hc] at hL
  simp -dsimp [go_sem, hN]
  refine tcall (c_machine_tick (Y.ext [_, _, _] (by simp [hUnder, AObj.under, AV.under, underL])) s3 (by omega)) ?_
  rintro r h' ⟨rfl, rfl⟩
  rcases hT : tickS s3 with ⟨z | ⟨⟩, s4⟩
  · rw [hT] at hL
    simp only at hL
    rw [hL]
    simp -dsimp [go_sem, hN, endU]
    exact ⟨_, .refl _, K s4.q, by simp [go_sem], by first | exact hwk.refl _ | exact hwk.app0 _ | simp [hwk.refl], by simp [Y.len], Y.und' _, by first | rfl | simp, by first | rfl | simp [MS.q]⟩
  rw [hT] at hL
  simp only at hL
  have hI4 := (hI3.tick hT).vars (rng_vI hi) name
  simp -dsimp [go_sem, hN, endU]
  refine awp_drawQ 8 mixed (by kernel_rfl) (by kernel_rfl) ?_
  simp -dsimp [go_sem, hN, Y.len, Y.loc, Y.loc1, Y.loc2, Y.lm', Y.lv', Y.sv', kvSet_vI]
  refine tcall (hblk (Y.ext [_, _, _] (by simp [hUnder, AObj.under, AV.under, underL])) { s4 with vars := kSet s4.vars name (vI i) } (hI4.mono (by omega) (by omega))) ?_
  rintro r h' ⟨rfl, rfl⟩
  rcases hB5 : blkI C body { s4 with vars := kSet s4.vars name (vI i) } with ⟨z | ⟨⟩, s5⟩
  · rw [hB5] at hL
    simp only at hL
    rw [hL]
    simp -dsimp [go_sem, hN, endU, hB5, St.body]
    exact ⟨_, .refl _, K s5.q, by simp [go_sem], by first | exact hwk.refl _ | exact hwk.app0 _ | simp [hwk.refl], by simp [Y.len], Y.und' _, by first | rfl | simp, by first | rfl | simp [MS.q]⟩
  rw [hB5] at hL
  simp only at hL
  simp -dsimp [go_sem, hN, endU, hB5, St.body]
  have hb1 := blkI_steps (C := C) body { s4 with vars := kSet s4.vars name (vI i) }
  have hb2 := tick_steps s3
  rw [hB5] at hb1
  rw [hT] at hb2
  simp only at hb1 hb2
  exact ⟨f, W64 (i + 1), s5, ⟨blkI_ok hC body _ _ _ hbody (hI4.mono (by omega) (by omega)) hB5, i64_w _, by omega, hL⟩, by omega, (Wk.mk (by simp [hh, Y.len]) (by simp [go_sem]) (by simp [Y.und, Y.undA, Y.len, go_sem]) (by simp [go_sem, Y.len] <;> omega))⟩
end Go.Proofs.YtcmbmfmpelnimaaGreatDoor

set_option maxRecDepth 4000
set_option maxHeartbeats 1000000
namespace Go.Proofs.YtcmbmfmpelnimaaGreatDoor
open Go Go.Abs Go.Cw
attribute [local go_sem] mC
variable {C : Cfg} {tT : TypeId} {tx : Nat × Nat} {g m v o io ir ip : Nat}
mutual
theorem c_machine_block (hF : C.fmt = fmtI) (hC : rngC C) (l : List St) (hG : ∀ x ∈ l, goS x) {K : MQ → AHeap} {n0 : Nat} (Y : MHs C tT tx g m v o io ir ip K n0) (s : MS) (hI : Cw.Inv 0 0 s) :
    ACalls Tryz.prog 38 [.ptr m 0, .slice (l.map St.c)] (K s.q) fun r h' => r = endU (blkI C l s).1 ∧ h' = K (blkI C l s).2.q := by
  refine acalls_introB Tryz.func38 rfl (by kernel_rfl) (by simp [Tryz.ntmps38]) ?_
  intro E hN hh hu hb hb' hua
  rw [Tryz.ntmps38] at hN
  refine awp_of_wpC _ _ _ ?_
  simp [go_sem] at hb
  have hmn := Y.hm
  obtain ⟨L0, hL0⟩ : ∃ L0, L0 = blkI C l s := ⟨_, rfl⟩
  rw [← hL0]
  simp -dsimp [go_sem, hN]
  refine awp_loopA (α := MS) l.length (fun n s' => Cw.Inv 0 0 s' ∧ L0 = blkI C (l.drop n) s') (fun n s' => ⟨[(0, .ptr m 0), (6, .slice (l.map St.c)), (7, I l.length), (8, I n)], K s'.q⟩) s ⟨hI, by simpa using hL0⟩ (Wk.mk (by simp [hh, Y.len]) (by simp [go_sem]) (by simp [Y.und, Y.undA, Y.len, go_sem]) (by simp [go_sem, Y.len] <;> omega)) ?_
  rintro n s1 hn ⟨hI1, hL⟩
  have hw := wrapS hn hb.1
  have hst1 := hI1.st
  simp -dsimp [go_sem, hN]
  refine cnd (fun hc => ?_) (fun hc => ?_) <;> simp at hc
  rotate_left
  · rw [List.drop_eq_nil_of_le (by omega), blkI] at hL
    rw [hL]
    simp -dsimp [go_sem, hN, endU]
    exact ⟨_, .refl _, K s1.q, by simp [go_sem], by first | exact hwk.refl _ | exact hwk.app0 _ | simp [hwk.refl], by simp [Y.len], Y.und' _, by first | rfl | simp, by first | rfl | simp [MS.q]⟩
  rw [drop_next hc, blkI] at hL
  have hlt : SizeOf.sizeOf l[n] < SizeOf.sizeOf l := List.sizeOf_lt_of_mem (List.getElem_mem hc)
  simp -dsimp [go_sem, hN, hc, Y.len, St.c_eq]
  refine tcall (c_machine_tick (Y.ext [_] (by simp [hUnder, AObj.under, AV.under, underL])) s1 (by omega)) ?_
  rintro r h' ⟨rfl, rfl⟩
  rcases hT : tickS s1 with ⟨z | ⟨⟩, s2⟩
  · rw [hT] at hL
    simp only at hL
    rw [hL]
    simp -dsimp [go_sem, hN, endU]
    exact ⟨_, .refl _, K s2.q, by simp [go_sem], by first | exact hwk.refl _ | exact hwk.app0 _ | simp [hwk.refl], by simp [Y.len], Y.und' _, by first | rfl | simp, by first | rfl | simp [MS.q]⟩
  rw [hT] at hL
  simp only at hL
  have hI2 := hI1.tick hT
  simp -dsimp [go_sem, hN, endU, Y.len, Y.loc]
  refine tcall (c_machine_stmt hF hC l[n] (hG _ (List.getElem_mem hc)) (Y.ext [_] (by simp [hUnder, AObj.under, AV.under, underL])) s2 hI2) ?_
  rintro r h' ⟨rfl, rfl⟩
  rcases hS : stI C l[n] s2 with ⟨z | ⟨⟩, s3⟩
  · rw [hS] at hL
    simp only at hL
    rw [hL]
    simp -dsimp [go_sem, hN, endU]
    exact ⟨_, .refl _, K s3.q, by simp [go_sem], by first | exact hwk.refl _ | exact hwk.app0 _ | simp [hwk.refl], by simp [Y.len], Y.und' _, by first | rfl | simp, by first | rfl | simp [MS.q]⟩
  rw [hS] at hL
  simp only at hL
  simp -dsimp [go_sem, hN, endU, hw]
  exact ⟨hc, s3, ⟨stI_ok hC _ _ _ _ (hG _ (List.getElem_mem hc)) hI2 hS, hL⟩, (Wk.mk (by simp [hh, Y.len]) (by simp [go_sem]) (by simp [Y.und, Y.undA, Y.len, go_sem]) (by simp [go_sem, Y.len] <;> omega))⟩
termination_by (SizeOf.sizeOf l, 0)
theorem c_machine_stmt (hF : C.fmt = fmtI) (hC : rngC C) (t : St) (hG : goS t) {K : MQ → AHeap} {n0 : Nat} (Y : MHs C tT tx g m v o io ir ip K n0) (s : MS) (hI : Cw.Inv 8192 1 s) :
    ACalls Tryz.prog 80 [.ptr m 0, .agg t.x] (K s.q) fun r h' => r = endU (stI C t s).1 ∧ h' = K (stI C t s).2.q := by
  refine acalls_introB Tryz.func80 rfl (by kernel_rfl) (by simp [Tryz.ntmps80]) ?_
  intro E hN hh hu hb hb' hua
  rw [Tryz.ntmps80] at hN
  refine awp_of_wpC _ _ _ ?_
  simp [go_sem] at hb
  have hG' := (goS_iff _).1 hG
  have hmn := Y.hm
  obtain ⟨hA, hB, hbody, hels⟩ := hG'
  have hst := hI.st
  have hrd := hI.rd
  have hpt := hI.pt
  have hlB : SizeOf.sizeOf t.body < SizeOf.sizeOf t := by cases t; simp [St.body]; omega
  have hlE : SizeOf.sizeOf t.els < SizeOf.sizeOf t := by cases t; simp [St.els]; omega
  rw [stI_eq]
  simp -dsimp [go_sem, hN, Y.len, Y.loc]
  by_cases h12 : t.op = 1 ∨ t.op = 2
  · rw [if_pos h12]
    have ha := hA (by omega)
    have h1 := hI.eval hC (r := 4097) ha
    have hc := c_machine_eval hF hC (Y.ext [.cells t.x] (by simp [hUnder, AObj.under, AV.under, underL])) s t.a ha.1 hI.rng hI.ar (by have := ha.2; omega)
    obtain ⟨x0, hx0⟩ : ∃ x0, x0 = evE C t.a s := ⟨_, rfl⟩
    rw [← hx0] at hc ⊢
    refine cnd (fun h => ?_) (fun h => ?_) <;> simp at h
    all_goals
      rcases x0 with ⟨z | u, s1⟩
      · try simp -dsimp [go_sem, hN]
        refine cnd (fun _ => ?_) (fun k => by simp at k; omega)
        try simp -dsimp [go_sem, hN]
        refine awp_drawK 10 9 [0, 1, 2, 3, 4, 5] mixed (by kernel_rfl) ?_
        simp -dsimp [go_sem, hN, Y.len, Y.loc, Y.lm', Y.lv']
        refine tkcall_pan (h2 := K s1.q ++ [.cells t.x]) (hc.mono (by rintro _ _ ⟨rfl, rfl⟩; exact ⟨rfl, rfl⟩)) ?_
        simp -dsimp [go_sem, hN, endU]
        exact ⟨_, .refl _, K s1.q, by simp [go_sem], by first | exact hwk.refl _ | exact hwk.app0 _ | simp [hwk.refl], by simp [Y.len], Y.und' _, by first | rfl | simp, by first | rfl | simp [MS.q]⟩
      · try simp -dsimp [go_sem, hN]
        refine cnd (fun _ => ?_) (fun k => by simp at k; omega)
        try simp -dsimp [go_sem, hN]
        refine awp_drawK 10 9 [0, 1, 2, 3, 4, 5] mixed (by kernel_rfl) ?_
        simp -dsimp [go_sem, hN, Y.len, Y.loc, Y.lm', Y.lv']
        refine tkcall_ret (h2 := K s1.q ++ [.cells t.x]) (r := .agg u.c) (hc.mono (by rintro _ _ ⟨rfl, rfl⟩; exact ⟨rfl, rfl⟩)) ?_
        simp -dsimp [go_sem, hN, endU, Y.len, Y.loc, Y.lm', Y.lv', Y.sv']
        exact ⟨_, .refl _, K (MS.q { s1 with vars := kSet s1.vars t.name u }), by simp [go_sem], by first | exact hwk.refl _ | exact hwk.app0 _ | simp [hwk.refl], by simp [Y.len], Y.und' _, by first | rfl | simp, by first | rfl | simp [MS.q]⟩
  rw [if_neg h12]
  have h12' : ¬ t.op = 1 ∧ ¬ t.op = 2 := by omega
  refine cnd (fun k => by simp [h12'] at k) (fun _ => ?_)
  try simp -dsimp [go_sem, hN, h12'.1, h12'.2]
  refine cnd (fun h3 => ?_) (fun h3 => ?_) <;> simp at h3
  · simp only [h3, if_true]
    have ha := hA (by omega)
    have hb2 := hB (by omega)
    have h1 := hI.eval hC (r := 4097) ha
    simp -dsimp [go_sem, hN, Y.len, Y.loc]
    refine tcall (c_machine_eval hF hC (Y.ext [_] (by simp [hUnder, AObj.under, AV.under, underL])) s t.a ha.1 hI.rng hI.ar (by have := ha.2; omega)) ?_
    rintro r h' ⟨rfl, rfl⟩
    rcases hE : evE C t.a s with ⟨z | u, s1⟩
    · simp -dsimp [go_sem, hN, endV, endU]
      exact ⟨_, .refl _, K s1.q, by simp [go_sem], by first | exact hwk.refl _ | exact hwk.app0 _ | simp [hwk.refl], by simp [Y.len], Y.und' _, by first | rfl | simp, by first | rfl | simp [MS.q]⟩
    rw [hE] at h1
    simp only at h1
    dsimp only
    have hrd1 := h1.1.rd
    have hst1 := h1.1.st
    simp -dsimp [go_sem, hN, endV, Y.len, Y.loc, Y.loc1]
    refine tcall (c_machine_eval hF hC (Y.ext [_, _] (by simp [hUnder, AObj.under, AV.under, underL])) s1 t.b hb2.1 h1.1.rng h1.1.ar (by have := hb2.2; omega)) ?_
    rintro r h' ⟨rfl, rfl⟩
    have h2 := h1.1.eval hC (r := 2) hb2
    rcases hE2 : evE C t.b s1 with ⟨z | w, s2⟩
    · simp -dsimp [go_sem, hN, endV, endU]
      exact ⟨_, .refl _, K s2.q, by simp [go_sem], by first | exact hwk.refl _ | exact hwk.app0 _ | simp [hwk.refl], by simp [Y.len], Y.und' _, by first | rfl | simp, by first | rfl | simp [MS.q]⟩
    rw [hE2] at h2
    simp only at h2
    dsimp only
    simp -dsimp [go_sem, hN, endV, Y.len, Y.loc, Y.loc1, Y.loc2]
    repeat refine ⟨by grind, ?_⟩
    have hpt2 := h2.1.pt
    have hst2 := h2.1.st
    refine tcall (c_must (decide (u.k = 2) && (decide (w.k = 1) || decide (w.k = 2))) _) ?_
    rintro r h' ⟨⟨hm, rfl⟩ | ⟨hm, rfl⟩, rfl⟩ <;> simp at hm
    rotate_left
    · simp -dsimp [go_sem, hN, endU]
      rw [if_neg (by rintro ⟨k1, k2⟩; have := hm k1; omega)]
      exact ⟨_, .refl _, K s2.q, by simp [go_sem], by first | exact hwk.refl _ | exact hwk.app0 _ | simp [hwk.refl], by simp [Y.len], Y.und' _, by first | rfl | simp, by first | rfl | simp [MS.q]⟩
    rw [if_pos hm]
    simp -dsimp [go_sem, hN, Y.len, Y.loc, Y.loc1, Y.loc2]
    refine tcall (c_machine_store (Y.ext [_, _, _] (by simp [hUnder, AObj.under, AV.under, underL])) s2 u.s w h2.1.ap (by omega)) ?_
    rintro r h' ⟨rfl, rfl⟩
    rcases storeS C u.s w s2 with ⟨z | ⟨⟩, s3⟩ <;> simp -dsimp [go_sem, hN, endU] <;> exact ⟨_, .refl _, K s3.q, by simp [go_sem], by first | exact hwk.refl _ | exact hwk.app0 _ | simp [hwk.refl], by simp [Y.len], Y.und' _, by first | rfl | simp, by first | rfl | simp [MS.q]⟩
  simp only [h3, if_false]
  simp -dsimp [go_sem, hN, Y.len, Y.loc]
  refine cnd (fun h4 => ?_) (fun h4 => ?_) <;> simp at h4
  · simp only [h4, if_true]
    have ha := hA (by omega)
    have h1 := hI.eval hC (r := 4097) ha
    simp -dsimp [go_sem, hN, Y.len, Y.loc]
    refine tcall (c_machine_eval hF hC (Y.ext [_] (by simp [hUnder, AObj.under, AV.under, underL])) s t.a ha.1 hI.rng hI.ar (by have := ha.2; omega)) ?_
    rintro r h' ⟨rfl, rfl⟩
    rcases hE : evE C t.a s with ⟨z | u, s1⟩
    · simp -dsimp [go_sem, hN, endV, endU]
      exact ⟨_, .refl _, K s1.q, by simp [go_sem], by first | exact hwk.refl _ | exact hwk.app0 _ | simp [hwk.refl], by simp [Y.len], Y.und' _, by first | rfl | simp, by first | rfl | simp [MS.q]⟩
    rw [hE] at h1
    simp only at h1
    dsimp only
    have hpt1 := h1.1.pt
    have hst1 := h1.1.st
    simp -dsimp [go_sem, hN, endV, Y.len, Y.loc, Y.loc1]
    refine tcall (c_must (decide (u.k = 2)) _) ?_
    rintro r h' ⟨⟨hm, rfl⟩ | ⟨hm, rfl⟩, rfl⟩ <;> simp at hm
    rotate_left
    · simp -dsimp [go_sem, hN, endU, hm]
      exact ⟨_, .refl _, K s1.q, by simp [go_sem], by first | exact hwk.refl _ | exact hwk.app0 _ | simp [hwk.refl], by simp [Y.len], Y.und' _, by first | rfl | simp, by first | rfl | simp [MS.q]⟩
    simp only [hm, if_true]
    simp -dsimp [go_sem, hN, Y.len, Y.loc, Y.loc1]
    refine tcall (c_machine_store (Y.ext [_, _] (by simp [hUnder, AObj.under, AV.under, underL])) s1 u.s V.nil h1.1.ap (by omega)) ?_
    rintro r h' ⟨rfl, rfl⟩
    rcases storeS C u.s V.nil s1 with ⟨z | ⟨⟩, s2⟩ <;> simp -dsimp [go_sem, hN, endU] <;> exact ⟨_, .refl _, K s2.q, by simp [go_sem], by first | exact hwk.refl _ | exact hwk.app0 _ | simp [hwk.refl], by simp [Y.len], Y.und' _, by first | rfl | simp, by first | rfl | simp [MS.q]⟩
  simp only [h4, if_false]
  simp -dsimp [go_sem, hN, Y.len, Y.loc]
  refine cnd (fun h5 => ?_) (fun h5 => ?_) <;> simp at h5
  · simp only [h5, if_true]
    have ha := hA (by omega)
    have h1 := hI.eval hC (r := 4097) ha
    simp -dsimp [go_sem, hN, Y.len, Y.loc]
    refine tcall (c_machine_eval hF hC (Y.ext [_] (by simp [hUnder, AObj.under, AV.under, underL])) s t.a ha.1 hI.rng hI.ar (by have := ha.2; omega)) ?_
    rintro r h' ⟨rfl, rfl⟩
    rcases hE : evE C t.a s with ⟨z | u, s1⟩
    · simp -dsimp [go_sem, hN, endV, endU]
      exact ⟨_, .refl _, K s1.q, by simp [go_sem], by first | exact hwk.refl _ | exact hwk.app0 _ | simp [hwk.refl], by simp [Y.len], Y.und' _, by first | rfl | simp, by first | rfl | simp [MS.q]⟩
    rw [hE] at h1
    simp only at h1
    dsimp only
    simp -dsimp [go_sem, hN, endV, Y.len, Y.loc, Y.loc1]
    refine tcall (c_must (decide (u.k = 3)) _) ?_
    rintro r h' ⟨⟨hm, rfl⟩ | ⟨hm, rfl⟩, rfl⟩ <;> simp at hm
    rotate_left
    · simp -dsimp [go_sem, hN, endU, hm]
      exact ⟨_, .refl _, K s1.q, by simp [go_sem], by first | exact hwk.refl _ | exact hwk.app0 _ | simp [hwk.refl], by simp [Y.len], Y.und' _, by first | rfl | simp, by first | rfl | simp [MS.q]⟩
    simp only [hm, if_true]
    simp -dsimp [go_sem, hN, Y.len, Y.loc, Y.loc1]
    refine cnd (fun hx => ?_) (fun hx => ?_) <;> simp at hx
    · simp only [hx, if_true]
      simp -dsimp [go_sem, hN, Y.len, Y.loc, Y.loc1]
      refine tcall (c_machine_block hF hC t.body hbody (Y.ext [_, _] (by simp [hUnder, AObj.under, AV.under, underL])) s1 (h1.1.mono (by omega) (by omega))) ?_
      rintro r h' ⟨rfl, rfl⟩
      rcases blkI C t.body s1 with ⟨z | ⟨⟩, s2⟩ <;> simp -dsimp [go_sem, hN, endU] <;> exact ⟨_, .refl _, K s2.q, by simp [go_sem], by first | exact hwk.refl _ | exact hwk.app0 _ | simp [hwk.refl], by simp [Y.len], Y.und' _, by first | rfl | simp, by first | rfl | simp [MS.q]⟩
    · simp only [hx, if_false]
      simp -dsimp [go_sem, hN, Y.len, Y.loc, Y.loc1]
      refine tcall (c_machine_block hF hC t.els hels (Y.ext [_, _] (by simp [hUnder, AObj.under, AV.under, underL])) s1 (h1.1.mono (by omega) (by omega))) ?_
      rintro r h' ⟨rfl, rfl⟩
      rcases blkI C t.els s1 with ⟨z | ⟨⟩, s2⟩ <;> simp -dsimp [go_sem, hN, endU] <;> exact ⟨_, .refl _, K s2.q, by simp [go_sem], by first | exact hwk.refl _ | exact hwk.app0 _ | simp [hwk.refl], by simp [Y.len], Y.und' _, by first | rfl | simp, by first | rfl | simp [MS.q]⟩
  simp only [h5, if_false]
  simp -dsimp [go_sem, hN, Y.len, Y.loc]
  refine cnd (fun h6 => ?_) (fun h6 => ?_) <;> simp at h6
  · rw [if_pos h6]
    simp -dsimp [go_sem, hN, Y.len, Y.loc]
    refine tcall (c_machine_loop hF hC (Y.ext [_] (by simp [hUnder, AObj.under, AV.under, underL])) t h6 hG s hI (fun Y' s' hI' => c_machine_block hF hC t.body hbody Y' s' hI')) ?_
    rintro r h' ⟨rfl, rfl⟩
    rcases stI C t s with ⟨z | ⟨⟩, s2⟩ <;> simp -dsimp [go_sem, hN, endU] <;> exact ⟨_, .refl _, K s2.q, by simp [go_sem], by first | exact hwk.refl _ | exact hwk.app0 _ | simp [hwk.refl], by simp [Y.len], Y.und' _, by first | rfl | simp, by first | rfl | simp [MS.q]⟩
  simp only [h6, if_false]
  simp -dsimp [go_sem, hN, Y.len, Y.loc]
  refine cnd (fun h7 => ?_) (fun h7 => ?_) <;> simp at h7
  · simp only [h7, if_true]
    have ha := hA (by omega)
    have h1 := hI.eval hC (r := 4097) ha
    simp -dsimp [go_sem, hN, Y.len, Y.loc]
    refine tcall (c_machine_eval hF hC (Y.ext [_] (by simp [hUnder, AObj.under, AV.under, underL])) s t.a ha.1 hI.rng hI.ar (by have := ha.2; omega)) ?_
    rintro r h' ⟨rfl, rfl⟩
    rcases hE : evE C t.a s with ⟨z | u, s1⟩
    · simp -dsimp [go_sem, hN, endV, endU]
      exact ⟨_, .refl _, K s1.q, by simp [go_sem], by first | exact hwk.refl _ | exact hwk.app0 _ | simp [hwk.refl], by simp [Y.len], Y.und' _, by first | rfl | simp, by first | rfl | simp [MS.q]⟩
    rw [hE] at h1
    simp only at h1
    dsimp only
    have hot := h1.1.ot
    simp -dsimp [go_sem, hN, endV, Y.len, Y.loc, Y.loc1]
    repeat refine ⟨by grind, ?_⟩
    refine tcall (c_must (decide (u.k = 1) || decide (u.k = 2)) _) ?_
    rintro r h' ⟨⟨hm, rfl⟩ | ⟨hm, rfl⟩, rfl⟩ <;> simp at hm
    rotate_left
    · simp -dsimp [go_sem, hN, endU, hm]
      exact ⟨_, .refl _, K s1.q, by simp [go_sem], by first | exact hwk.refl _ | exact hwk.app0 _ | simp [hwk.refl], by simp [Y.len], Y.und' _, by first | rfl | simp, by first | rfl | simp [MS.q]⟩
    simp only [hm, if_true]
    simp -dsimp [go_sem, hN, Y.len, Y.loc, Y.loc1]
    refine tcall (c_machine_emit (Y.ext [_, _] (by simp [hUnder, AObj.under, AV.under, underL])) s1 u (by omega)) ?_
    rintro r h' ⟨rfl, rfl⟩
    rcases emitS u s1 with ⟨z | ⟨⟩, s2⟩ <;> simp -dsimp [go_sem, hN, endU] <;> exact ⟨_, .refl _, K s2.q, by simp [go_sem], by first | exact hwk.refl _ | exact hwk.app0 _ | simp [hwk.refl], by simp [Y.len], Y.und' _, by first | rfl | simp, by first | rfl | simp [MS.q]⟩
  simp only [h7, if_false]
  simp -dsimp [go_sem, hN, Y.len, Y.loc]
  refine cnd (fun h8 => ?_) (fun h8 => ?_) <;> simp at h8
  · simp only [h8, if_true]
    simp -dsimp [go_sem, hN, Y.len, Y.loc]
    refine tcall (c_interp_abort t.max _) ?_
    rintro r h' ⟨rfl, rfl⟩
    simp -dsimp [go_sem, hN, endU]
    exact ⟨_, .refl _, K s.q, by simp [go_sem], by first | exact hwk.refl _ | exact hwk.app0 _ | simp [hwk.refl], by simp [Y.len], Y.und' _, by first | rfl | simp, by first | rfl | simp [MS.q]⟩
  · simp only [h8, if_false]
    simp -dsimp [go_sem, hN, endU]
    exact ⟨_, .refl _, K s.q, by simp [go_sem], by first | exact hwk.refl _ | exact hwk.app0 _ | simp [hwk.refl], by simp [Y.len], Y.und' _, by first | rfl | simp, by first | rfl | simp [MS.q]⟩
termination_by (SizeOf.sizeOf t, 0)
end
end Go.Proofs.YtcmbmfmpelnimaaGreatDoor

set_option maxRecDepth 4000
set_option maxHeartbeats 1000000
namespace Go.Proofs.YtcmbmfmpelnimaaGreatDoor
open Go Go.Abs Go.Cw
theorem c_interp_wrong (h : AHeap) : ACalls Tryz.prog 33 [] h fun r h' => r = .ret (.agg wrongE.c) ∧ h' = h := by
  refine acalls_introB Tryz.func33 rfl (by kernel_rfl) (by simp [Tryz.ntmps33]) ?_
  intro E hN hh hu hb hb' hua
  rw [Tryz.ntmps33] at hN
  refine awp_of_wpC _ _ _ ?_
  simp -dsimp [go_sem, hN]
  exact ⟨_, .refl _, h, by simp [go_sem], by simp [go_sem], by simp, by simp [hu, go_sem], rfl, rfl⟩
theorem c_interp_newMachine (st : List Pr) (ft : Foot) (h : AHeap) : ACalls Tryz.prog 34 [.slice (st.map Pr.c), .agg ft.c] h fun r h' => r = .ret (.ptr (h.length + 3) 0) ∧
    h' = h ++ [.cells ft.c, .map [], .map [], .cells [.slice (st.map Pr.c), Bo ft.all, .slice (ft.reads.map sRow), .slice (ft.writes.map sRow), .mapr (h.length + 1), .mapr (h.length + 2), I 0, I 0, .nils, .nils, .nils, .nils, S em, I 0]] := by
  refine acalls_introB Tryz.func34 rfl (by kernel_rfl) (by simp [Tryz.ntmps34]) ?_
  intro E hN hh hu hb hb' hua
  rw [Tryz.ntmps34] at hN
  refine awp_of_wpC _ _ _ ?_
  simp -dsimp [go_sem, hN]
  refine ⟨by simp [liftK, liftC], _, .refl _, _, ?_, hwk.refl _, by simp, ?_, rfl, by rfl⟩
  · simp [go_sem]
  · simp [hu, hUnder_ext hu, hUnder_app, go_sem]
end Go.Proofs.YtcmbmfmpelnimaaGreatDoor

set_option maxRecDepth 4000
namespace Go.Proofs.YtcmbmfmpelnimaaGreatDoor
open Go Go.Abs Go.Cw
variable {c a b d : Nat} {H : TS → AHeap} {n0 : Nat}
theorem c_checker_declare (T : TH c a b d H n0) (s : TS) (name : Bytes) (ty : Int) :
    ACalls Tryz.prog 162 [.ptr c 0, S name, I ty] (H s) fun r h' => r = .ret (.tuple []) ∧ h' = H (s.decl name ty) := by
  refine acalls_introB Tryz.func162 rfl (by kernel_rfl) (by simp [Tryz.ntmps162]) ?_
  intro E hN hh hu hb hb' hua
  rw [Tryz.ntmps162] at hN
  refine awp_of_wpC _ _ _ ?_
  simp -dsimp [go_sem, hN, T.lc, T.la, T.ld, T.sa, T.sd]
  exact ⟨_, .refl _, H (s.decl name ty), rfl, by simp [TS.decl], by simp [T.len], T.und' _, rfl, rfl⟩
theorem c_checker_operands (T : TH c a b d H n0) (s : TS) (t : St) (hA : t.op ≠ 8 → chkE t.a 1 = 0) (hB : t.op = 3 ∨ t.op = 6 → chkE t.b 1 = 0) :
    ACalls Tryz.prog 251 [.ptr c 0, .agg t.x] (H s) fun r h' => r = .ret (.tuple [I (opsT s.visible t).1, I (opsT s.visible t).2.1, I (opsT s.visible t).2.2]) ∧ h' = H s := by
  refine acalls_introB Tryz.func251 rfl (by kernel_rfl) (by simp [Tryz.ntmps251]) ?_
  intro E hN hh hu hb hb' hua
  rw [Tryz.ntmps251] at hN
  refine awp_of_wpC _ _ _ ?_
  simp -dsimp [go_sem, hN]
  refine cnd (fun h0 => ?_) (fun h0 => ?_) <;> simp at h0
  · simp -dsimp [go_sem, hN]
    rw [opsT, if_pos h0]
    exact ⟨_, .refl _, H s, rfl, by simp, by simp, hu, rfl, rfl⟩
  simp -dsimp [go_sem, hN]
  refine awp_drawK 11 6 [] mixed (by kernel_rfl) ?_
  simp -dsimp [go_sem, hN, T.lc', T.la']
  refine tkcall_ret (c_types_of s.visible t.a 1 (hA h0) _ a (T.la' s _)) ?_
  simp -dsimp [go_sem, hN]
  refine ⟨by grind, ?_⟩
  refine cnd (fun h1 => ?_) (fun h1 => ?_) <;> simp at h1
  · simp -dsimp [go_sem, hN]
    refine awp_drawK 11 6 [] mixed (by kernel_rfl) ?_
    simp -dsimp [go_sem, hN, T.lc', T.la']
    refine tkcall_ret (c_types_of s.visible t.b 1 (hB h1.2) _ a (T.la' s _)) ?_
    simp -dsimp [go_sem, hN]
    rw [opsT, if_neg h0, if_pos h1]
    exact ⟨_, .refl _, H s, rfl, by simp, by simp, hu, rfl, rfl⟩
  · simp -dsimp [go_sem, hN]
    rw [opsT, if_neg h0, if_neg (by rintro ⟨h2, h3⟩; have := h1 h2; omega)]
    exact ⟨_, .refl _, H s, rfl, by simp, by simp, hu, rfl, rfl⟩
set_option maxHeartbeats 4000000 in
mutual
theorem c_checker_block {H : TS → AHeap} {n0 : Nat} (T : TH c a b d H n0) (s : TS) (l : List St) (dp : Nat) (hl : okL l dp) :
    ACalls Tryz.prog 164 [.ptr c 0, .slice (l.map St.c)] (H s) fun r h' => r = .ret (I (blkT l s).1) ∧ h' = H (blkT l s).2 := by
  refine acalls_introB Tryz.func164 rfl (by kernel_rfl) (by simp [Tryz.ntmps164]) ?_
  intro E hN hh hu hb hb' hua
  rw [Tryz.ntmps164] at hN
  refine awp_of_wpC _ _ _ ?_
  simp [go_sem] at hb
  simp -dsimp [go_sem, hN]
  refine awp_loopA (α := TS) l.length (fun n x => seqT (l.drop n) x = seqT l s) (fun n x => ⟨[(0, .ptr c 0), (1, .slice (l.map St.c)), (10, .slice (l.map St.c)), (11, I l.length), (12, I n)], H x⟩) s (by simp) (Wk.mk (by simp [hh, T.len]) (by simp [go_sem]) (T.und' _) (by have := T.hc; simp [go_sem, T.len]; omega)) ?_
  intro n x hn hI
  have hw := wrapS hn hb.1
  simp -dsimp [go_sem, hN]
  refine cnd (fun hc => ?_) (fun hc => ?_) <;> simp at hc
  · rw [drop_next hc, seqT] at hI
    have hlt : SizeOf.sizeOf l[n] < SizeOf.sizeOf l := List.sizeOf_lt_of_mem (List.getElem_mem hc)
    simp -dsimp [go_sem, hN, hc]
    refine tcall (c_checker_statement (T.ext [.cells l[n].x] (by simp [go_sem])) x l[n] dp (hl _ (List.getElem_mem hc))) ?_
    rintro r h' ⟨rfl, rfl⟩
    simp -dsimp [go_sem, hN]
    refine cnd (fun h1 => ?_) (fun h1 => ?_) <;> simp at h1
    · rw [if_pos h1] at hI
      simp -dsimp [go_sem, hN]
      rw [blkT, blkOf, ← hI, if_pos h1]
      exact ⟨_, .refl _, H (stT l[n] x).2, rfl, by simp, by simp [T.len], T.und' _, rfl, rfl⟩
    · rw [if_neg (by simpa using h1)] at hI
      simp -dsimp [go_sem, hN, hw]
      exact ⟨hc, _, hI, Wk.mk (by simp [hh, T.len]) (by simp [go_sem]) (T.und' _) (by have := T.hc; simp [go_sem, T.len]; omega)⟩
  rw [List.drop_eq_nil_of_le (by omega), seqT] at hI
  simp -dsimp [go_sem, hN]
  refine awp_loopA (α := List (Bytes × Int)) l.length (fun n v => delLets (l.drop n) v = delLets l x.visible) (fun n v => ⟨[(0, .ptr c 0), (23, .slice (l.map St.c)), (24, I l.length), (25, I n)], H ⟨v, x.loops, x.all⟩⟩) x.visible (by simp) (Wk.mk (by simp [hh, T.len]) (by simp [go_sem]) (T.und' _) (by have := T.hc; simp [go_sem, T.len]; omega)) ?_
  intro n v hn hJ
  have hw := wrapS hn hb.1
  simp -dsimp [go_sem, hN]
  refine cnd (fun hc => ?_) (fun hc => ?_) <;> simp at hc
  · rw [drop_next hc, delLets] at hJ
    simp -dsimp [go_sem, hN, hc]
    refine cnd (fun h1 => ?_) (fun h1 => ?_) <;> simp at h1
    · rw [if_pos h1] at hJ
      simp -dsimp [go_sem, hN]
      refine awp_drawQ 6 mixed (by kernel_rfl) (by kernel_rfl) ?_
      simp -dsimp [go_sem, hN, T.lc', T.la', T.sa', hw]
      exact ⟨hc, _, hJ, Wk.mk (by simp [hh, T.len]) (by simp [go_sem]) (T.und' _) (by have := T.hc; simp [go_sem, T.len]; omega)⟩
    · rw [if_neg h1] at hJ
      simp -dsimp [go_sem, hN, hw]
      exact ⟨hc, _, hJ, Wk.mk (by simp [hh, T.len]) (by simp [go_sem]) (T.und' _) (by have := T.hc; simp [go_sem, T.len]; omega)⟩
  · rw [List.drop_eq_nil_of_le (by omega), delLets] at hJ
    simp -dsimp [go_sem, hN]
    rw [blkT, blkOf, ← hI, if_neg (by simp), hJ]
    exact ⟨_, .refl _, H ⟨delLets l x.visible, x.loops, x.all⟩, rfl, by simp, by simp [T.len], T.und' _, rfl, rfl⟩
termination_by SizeOf.sizeOf l
theorem c_checker_statement {H : TS → AHeap} {n0 : Nat} (T : TH c a b d H n0) (s : TS) (t : St) (dp : Nat) (ht : okS t dp) :
    ACalls Tryz.prog 220 [.ptr c 0, .agg t.x] (H s) fun r h' => r = .ret (I (stT t s).1) ∧ h' = H (stT t s).2 := by
  refine acalls_introB Tryz.func220 rfl (by kernel_rfl) (by simp [Tryz.ntmps220]) ?_
  intro E hN hh hu hb hb' hua
  rw [Tryz.ntmps220] at hN
  refine awp_of_wpC _ _ _ ?_
  simp -dsimp [go_sem, hN]
  refine tcall (c_checker_operands (T.ext [.cells t.x] (by simp [go_sem])) s t ?_ ?_) ?_
  · exact fun h0 => okS_a ht h0
  · exact fun h0 => okS_b ht h0
  rintro r h' ⟨rfl, rfl⟩
  have hbody := ((okS_iff t dp).1 ht).2.1
  have hels := ((okS_iff t dp).1 ht).2.2
  have lt1 := St.body_le t
  have lt2 := St.els_le t
  have lb0 : ∀ (s : TS) (l : AHeap), (H s ++ l).length = n0 + l.length := fun s l => by rw [List.length_append, T.len]
  rw [stT_eq, stStep]
  simp -dsimp [go_sem, hN]
  refine cnd (fun h1 => ?_) (fun h1 => ?_) <;> simp at h1
  · rw [if_pos h1]
    simp -dsimp [go_sem, hN]
    exact ⟨_, .refl _, H s, rfl, by simp, by simp, hu, rfl, rfl⟩
  rw [if_neg (by simpa using h1)]
  simp -dsimp [go_sem, hN]
  refine cnd (fun h2 => ?_) (fun h2 => ?_) <;> simp at h2
  · rw [if_pos h2]
    simp -dsimp [go_sem, hN]
    refine tcall (c_checker_declare (T.ext [.cells t.x] (by simp [go_sem])) s t.name _) ?_
    rintro r h' ⟨rfl, rfl⟩
    simp -dsimp [go_sem, hN]
    exact ⟨_, .refl _, H (s.decl t.name (opsT s.visible t).1), rfl, by simp, by simp [T.len], T.und' _, by first | rfl | grind | simp [*], by first | rfl | grind | simp [*]⟩
  rw [if_neg h2]
  simp -dsimp [go_sem, hN]
  refine cnd (fun h3 => ?_) (fun h3 => ?_) <;> simp at h3
  · rw [if_pos h3]
    simp -dsimp [go_sem, hN]
    refine awp_drawQ 11 mixed (by kernel_rfl) (by kernel_rfl) ?_
    rcases hk : kGet s.visible t.name with _ | ty
    · simp -dsimp [go_sem, hN, T.lc', T.la', hk]
      exact ⟨_, .refl _, H s, rfl, by simp, by simp [T.len], T.und' _, by first | rfl | grind | simp [*], by first | rfl | grind | simp [*]⟩
    · simp -dsimp [go_sem, hN, T.lc', T.la', hk]
      refine awp_drawQ 6 mixed (by kernel_rfl) (by kernel_rfl) ?_
      rcases hl : kGet s.loops t.name with _ | bo
      · simp -dsimp [go_sem, hN, T.lc', T.lb', hl]
        refine cnd (fun h4 => ?_) (fun h4 => ?_) <;> simp at h4
        · simp -dsimp [go_sem, hN]
          exact ⟨_, .refl _, H s, rfl, by simp, by simp [T.len], T.und' _, by first | rfl | grind | simp [*], by first | rfl | grind | simp [*]⟩
        · simp -dsimp [go_sem, hN]
          exact ⟨_, .refl _, H s, rfl, by simp, by simp [T.len], T.und' _, by first | rfl | grind | simp [*], by first | rfl | grind | simp [*]⟩
      · simp -dsimp [go_sem, hN, T.lc', T.lb', hl]
        refine cnd (fun h4 => ?_) (fun h4 => ?_)
        · simp -dsimp [go_sem, hN]
          exact ⟨_, .refl _, H s, rfl, by simp, by simp [T.len], T.und' _, by first | rfl | grind | simp [*], by first | rfl | grind | simp [*]⟩
        · simp -dsimp [go_sem, hN]
          refine cnd (fun h5 => ?_) (fun h5 => ?_) <;> simp at h5
          · simp -dsimp [go_sem, hN]
            exact ⟨_, .refl _, H s, rfl, by simp, by simp [T.len], T.und' _, by first | rfl | grind | simp [*], by first | rfl | grind | simp [*]⟩
          · simp -dsimp [go_sem, hN]
            exact ⟨_, .refl _, H s, rfl, by simp, by simp [T.len], T.und' _, by first | rfl | grind | simp [*], by first | rfl | grind | simp [*]⟩
  rw [if_neg h3]
  simp -dsimp [go_sem, hN]
  refine cnd (fun h4 => ?_) (fun h4 => ?_) <;> simp at h4
  · rw [if_pos h4]
    simp -dsimp [go_sem, hN]
    repeat refine ⟨by grind, ?_⟩
    refine cnd (fun h5 => ?_) (fun h5 => ?_) <;> simp at h5
    · simp -dsimp [go_sem, hN]
      exact ⟨_, .refl _, H s, rfl, by simp, by simp [T.len], T.und' _, by first | rfl | grind | simp [*], by first | rfl | grind | simp [*]⟩
    · simp -dsimp [go_sem, hN]
      exact ⟨_, .refl _, H s, rfl, by simp, by simp [T.len], T.und' _, by first | rfl | grind | simp [*], by first | rfl | grind | simp [*]⟩
  rw [if_neg h4]
  simp -dsimp [go_sem, hN]
  refine cnd (fun h5 => ?_) (fun h5 => ?_) <;> simp at h5
  · rw [if_pos h5]
    simp -dsimp [go_sem, hN]
    refine cnd (fun h6 => ?_) (fun h6 => ?_) <;> simp at h6
    · simp -dsimp [go_sem, hN]
      exact ⟨_, .refl _, H s, rfl, by simp, by simp [T.len], T.und' _, by first | rfl | grind | simp [*], by first | rfl | grind | simp [*]⟩
    · simp -dsimp [go_sem, hN]
      exact ⟨_, .refl _, H s, rfl, by simp, by simp [T.len], T.und' _, by first | rfl | grind | simp [*], by first | rfl | grind | simp [*]⟩
  rw [if_neg h5]
  simp -dsimp [go_sem, hN]
  refine cnd (fun h6 => ?_) (fun h6 => ?_) <;> simp at h6
  · rw [if_pos h6]
    simp -dsimp [go_sem, hN]
    refine cnd (fun h7 => ?_) (fun h7 => ?_) <;> simp at h7
    · simp -dsimp [go_sem, hN]
      exact ⟨_, .refl _, H s, rfl, by simp, by simp [T.len], T.und' _, by first | rfl | grind | simp [*], by first | rfl | grind | simp [*]⟩
    · simp -dsimp [go_sem, hN]
      exact ⟨_, .refl _, H s, rfl, by simp, by simp [T.len], T.und' _, by first | rfl | grind | simp [*], by first | rfl | grind | simp [*]⟩
  rw [if_neg h6]
  simp -dsimp [go_sem, hN]
  refine cnd (fun h7 => ?_) (fun h7 => ?_) <;> simp at h7
  · rw [if_pos h7]
    simp -dsimp [go_sem, hN]
    refine cnd (fun h8 => ?_) (fun h8 => ?_) <;> simp at h8
    · simp -dsimp [go_sem, hN]
      exact ⟨_, .refl _, H s, rfl, by simp, by simp [T.len], T.und' _, by first | rfl | grind | simp [*], by first | rfl | grind | simp [*]⟩
    rw [if_neg (by simpa using h8)]
    simp -dsimp [go_sem, hN]
    refine tcall (c_checker_block (T.ext [.cells t.x] (by simp [go_sem])) s t.body (dp + 1) hbody) ?_
    rintro r h' ⟨rfl, rfl⟩
    simp -dsimp [go_sem, hN]
    refine cnd (fun h9 => ?_) (fun h9 => ?_) <;> simp at h9
    · simp -dsimp [go_sem, hN]
      exact ⟨_, .refl _, H (blkT t.body s).2, rfl, by simp, by simp [T.len], T.und' _, by first | rfl | grind | simp [*], by first | rfl | grind | simp [*]⟩
    rw [if_neg (by simpa using h9)]
    simp -dsimp [go_sem, hN, lb0, T.len]
    refine tcall (c_checker_block (T.ext [.cells t.x] (by simp [go_sem])) (blkT t.body s).2 t.els (dp + 1) hels) ?_
    rintro r h' ⟨rfl, rfl⟩
    simp -dsimp [go_sem, hN]
    exact ⟨_, .refl _, H (blkT t.els (blkT t.body s).2).2, rfl, by simp, by simp [T.len], T.und' _, by first | rfl | grind | simp [*], by first | rfl | grind | simp [*]⟩
  rw [if_neg h7]
  simp -dsimp [go_sem, hN]
  refine cnd (fun h8 => ?_) (fun h8 => ?_) <;> simp at h8
  · rw [if_pos h8]
    simp -dsimp [go_sem, hN]
    repeat refine ⟨by grind, ?_⟩
    refine cnd (fun h9 => ?_) (fun h9 => ?_) <;> simp at h9
    · simp -dsimp [go_sem, hN]
      exact ⟨_, .refl _, H s, rfl, by simp, by simp [T.len], T.und' _, by first | rfl | grind | simp [*], by first | rfl | grind | simp [*]⟩
    rw [if_neg (by grind)]
    simp -dsimp [go_sem, hN]
    refine tcall (c_checker_declare (T.ext [.cells t.x] (by simp [go_sem])) s t.name 1) ?_
    rintro r h' ⟨rfl, rfl⟩
    simp -dsimp [go_sem, hN]
    refine awp_drawQ 6 mixed (by kernel_rfl) (by kernel_rfl) ?_
    simp -dsimp [go_sem, hN, T.lc', T.lb', T.sb', T.len]
    refine tcall (c_checker_block (T.ext [.cells t.x] (by simp [go_sem])) ⟨kSet s.visible t.name 1, kSet s.loops t.name true, kSet s.all t.name 1⟩ t.body (dp + 1) hbody) ?_
    rintro r h' ⟨rfl, rfl⟩
    simp -dsimp [go_sem, hN]
    refine awp_drawQ 6 mixed (by kernel_rfl) (by kernel_rfl) ?_
    simp -dsimp [go_sem, hN, T.lc', T.la', T.sa', T.len]
    exact ⟨_, .refl _, H ⟨kDel (blkT t.body ⟨kSet s.visible t.name 1, kSet s.loops t.name true, kSet s.all t.name 1⟩).2.visible t.name, (blkT t.body ⟨kSet s.visible t.name 1, kSet s.loops t.name true, kSet s.all t.name 1⟩).2.loops, (blkT t.body ⟨kSet s.visible t.name 1, kSet s.loops t.name true, kSet s.all t.name 1⟩).2.all⟩, rfl, by simp, by simp [T.len], T.und' _, by first | rfl | grind | simp [*], by first | rfl | grind | simp [*]⟩
  rw [if_neg h8]
  simp -dsimp [go_sem, hN]
  exact ⟨_, .refl _, H s, rfl, by simp, by simp [T.len], T.und' _, by first | rfl | grind | simp [*], by first | rfl | grind | simp [*]⟩
termination_by SizeOf.sizeOf t
end
end Go.Proofs.YtcmbmfmpelnimaaGreatDoor

set_option maxRecDepth 4000
namespace Go.Proofs.YtcmbmfmpelnimaaGreatDoor
open Go Go.Abs Go.Cw
def chkH (h : AHeap) (p : Proc) (s : TS) : AHeap := h ++ [.cells p.c, .map (kAV I s.visible), .map (kAV Bo s.loops), .map (kAV I s.all), .cells [.mapr (h.length + 1), .mapr (h.length + 2), .mapr (h.length + 3)]]
theorem chkTH (h : AHeap) (hu : hUnder h.length h = true) (p : Proc) : TH (h.length + 4) (h.length + 1) (h.length + 2) (h.length + 3) (chkH h p) (h.length + 5) where
  len := fun s => by simp [chkH]
  hc := by omega
  ha := by omega
  hb := by omega
  hd := by omega
  lc := fun s => by simp [chkH]
  la := fun s => by simp [chkH]
  lb := fun s => by simp [chkH]
  ld := fun s => by simp [chkH]
  sa := fun s v => by simp [chkH]
  sb := fun s v => by simp [chkH]
  sd := fun s v => by simp [chkH]
  und := fun s => by
    rw [chkH, hUnder_ext hu]
    have k1 : ∀ n l, (AObj.map (kAV I l)).under n = true := kAV_und (fun _ _ => rfl)
    have k2 : ∀ n l, (AObj.map (kAV Bo l)).under n = true := kAV_und (fun _ _ => rfl)
    simp only [hUnder, k1, k2, Bool.and_true, Bool.true_and]
    simp [go_sem]
set_option maxHeartbeats 2000000 in
theorem c_types_check (p : Proc) (h : AHeap) : ACalls Tryz.prog 117 [.agg p.c] h fun r h' => r = .ret (.tuple [.top, I (typeErr p)]) ∧ h' = h := by
  refine acalls_introB Tryz.func117 rfl (by kernel_rfl) (by simp [Tryz.ntmps117]) ?_
  intro E hN hh hu hb hb' hua
  rw [Tryz.ntmps117] at hN
  refine awp_of_wpC _ _ _ ?_
  simp [go_sem] at hb
  have T := chkTH h hu p
  simp -dsimp [go_sem, hN]
  refine tcall_pure (c_ast_Validate p) ?_
  simp -dsimp [go_sem, hN]
  refine cnd (fun h0 => ?_) (fun h0 => ?_) <;> simp at h0
  · simp -dsimp [go_sem, hN]
    refine ⟨.tuple [.top, _], .tuple ⟨.top _, .refl _, trivial⟩, h, ?_⟩
    rw [typeErr, if_pos h0]
    simp [go_sem, hu]
  have hlen : p.params.length ≤ 6 := by
    unfold validP at h0
    split at h0
    · contradiction
    split at h0
    · contradiction
    rename_i h1
    simp only [Decidable.not_not] at h1
    unfold paramsE at h1
    split at h1
    · contradiction
    · omega
  simp -dsimp [go_sem, hN]
  refine awp_loopA (α := TS) p.params.length (fun n x => declP (p.params.drop n) x = declP p.params ⟨[], [], []⟩ ∧ (p.params.drop n).any (fun x => decide (x.ty = 3)) = p.params.any (fun x => decide (x.ty = 3))) (fun n x => ⟨[(1, .ptr h.length 0), (5, .ptr (h.length + 4) 0), (23, .slice (p.params.map Param.c)), (24, I p.params.length), (25, I n)], chkH h p x⟩) ⟨[], [], []⟩ (by simp) (Wk.mk (by simp [hh, T.len]) (by simp [go_sem, chkH, kAV, kvEnc]) (T.und' _) (by simp [go_sem, T.len])) ?_
  intro n x hn ⟨hI, hJ⟩
  have hw := wrapS hn hb.2.1.1
  simp -dsimp [go_sem, hN]
  refine cnd (fun hc => ?_) (fun hc => ?_) <;> simp at hc
  · rw [drop_next hc] at hI hJ
    rw [List.any_cons] at hJ
    rw [declP, List.foldl_cons] at hI
    simp -dsimp [go_sem, hN, hc]
    refine cnd (fun h1 => ?_) (fun h1 => ?_) <;> simp at h1
    · simp -dsimp [go_sem, hN]
      refine ⟨.tuple [.top, _], .tuple ⟨.top _, .refl _, trivial⟩, h, ?_⟩
      rw [typeErr, if_neg (by simpa using h0), if_pos (by rw [← hJ]; simp [h1])]
      simp [go_sem, hu, chkH, hwk.app0]
    simp -dsimp [go_sem, hN]
    refine tcall (c_checker_declare (T.ext [.cells p.params[n].c] (by simp [go_sem])) x p.params[n].name p.params[n].ty) ?_
    rintro r h' ⟨rfl, rfl⟩
    simp -dsimp [go_sem, hN, hw]
    exact ⟨hc, _, ⟨hI, by rw [← hJ]; simp [h1]⟩, Wk.mk (by simp [hh, T.len]) (by simp [go_sem]) (T.und' _) (by simp [go_sem, T.len])⟩
  rw [List.drop_eq_nil_of_le (by omega)] at hI hJ
  have x0 : ∀ (x : TS) (l : AHeap), (chkH h p x ++ l)[h.length]? = some (.cells p.c) := fun x l => by simp [chkH]
  have x1 : ∀ (x : TS) (o : AObj) (l : AHeap), (chkH h p x ++ o :: l)[h.length + 5]? = some o := fun x o l => by
    rw [List.getElem?_append_right (by rw [T.len]; omega), T.len, Nat.sub_self]; rfl
  have x2 : ∀ (x : TS) (o o' : AObj) (l : AHeap), (chkH h p x ++ o :: l).set (h.length + 5) o' = chkH h p x ++ o' :: l := fun x o o' l => by
    rw [List.set_append_right _ _ (by rw [T.len]; omega), T.len, Nat.sub_self]; rfl
  have k2 : ∀ n l, (AObj.map (kAV Bo l)).under n = true := kAV_und (fun _ _ => rfl)
  have xu : ∀ (x : TS) (m : List (Bytes × Bool)), hUnder (chkH h p x ++ [AObj.map (kAV Bo m)]).length (chkH h p x ++ [AObj.map (kAV Bo m)]) = true := fun x m => by
    rw [List.length_append, hUnder_ext (T.und' x)]
    simp only [hUnder, k2, Bool.and_true]
  simp -dsimp [go_sem, hN, x0]
  refine tcall_pure (c_ast_Names p (by omega)) ?_
  simp -dsimp [go_sem, hN]
  refine awp_loopA (α := List (Bytes × Bool)) (namesP p).length (fun n m => dupM m ((namesP p).drop n) = dupM [] (namesP p)) (fun n m => ⟨[(1, .ptr h.length 0), (5, .ptr (h.length + 4) 0), (8, .mapr (h.length + 5)), (41, .slice ((namesP p).map sRow)), (42, I (namesP p).length), (43, I n)], chkH h p x ++ [AObj.map (kAV Bo m)]⟩) [] (by simp) (Wk.mk (by simp [hh, T.len]; omega) (by simp [go_sem, T.len, kAV, kvEnc]) (xu _ _) (by simp [go_sem, T.len]; try omega)) ?_
  intro n m hn hM
  have hnl : (namesP p).length ≤ 407 := by
    have := blkW_K nameS keepR List.length nameS_len (fun s _ => by simp [keepR]) p.body 1 (401, p.params.map (·.name))
    simp only [List.length_map] at this
    unfold namesP
    omega
  have hw := wrapS hn (by omega)
  simp -dsimp [go_sem, hN]
  refine cnd (fun hc => ?_) (fun hc => ?_) <;> simp at hc
  · rw [drop_next hc, dupM] at hM
    rcases hk : kGet m (namesP p)[n] with _ | bo
    · rw [hk] at hM
      simp -dsimp [go_sem, hN, hc, x1, x2, hk, sRow, hw]
      exact ⟨_, hM, Wk.mk (by simp [hh, T.len]; omega) (by simp [go_sem, T.len]) (xu _ _) (by simp [go_sem, T.len])⟩
    · rw [hk] at hM
      simp -dsimp [go_sem, hN, hc, x1, x2, hk, sRow, hw]
      refine cnd (fun h1 => ?_) (fun h1 => ?_)
      · simp -dsimp [go_sem, hN]
        refine ⟨.tuple [.top, _], .tuple ⟨.top _, .refl _, trivial⟩, h, ?_⟩
        rw [typeErr, if_neg (by simpa using h0), if_neg (by rw [← hJ]; simp), if_pos (by rw [← hM]; simp [h1])]
        simp [go_sem, hu, chkH, hwk.app0]
      · simp -dsimp [go_sem, hN, x1, x2, hw]
        subst h1
        exact ⟨hc, _, hM, Wk.mk (by simp [hh, T.len]; omega) (by simp [go_sem, T.len]) (xu _ _) (by simp [go_sem, T.len])⟩
  rw [List.drop_eq_nil_of_le (by omega), dupM] at hM
  have y0 : ∀ (x : TS) (l : AHeap), (chkH h p x ++ l)[h.length + 4]? = some (.cells [.mapr (h.length + 1), .mapr (h.length + 2), .mapr (h.length + 3)]) := fun x l => T.lc' x l
  simp -dsimp [go_sem, hN, x0]
  refine tcall (c_checker_block (T.ext [AObj.map (kAV Bo m)] (by simp only [hUnder, k2, Bool.and_true])) x p.body 1 (validP_ok h0)) ?_
  rintro r h' ⟨rfl, rfl⟩
  simp -dsimp [go_sem, hN, y0]
  refine ⟨.tuple [.top, _], .tuple ⟨.top _, .refl _, trivial⟩, h, ?_⟩
  rw [typeErr, if_neg (by simpa using h0), if_neg (by rw [← hJ]; simp), if_neg (by rw [← hM]; simp), ← hI]
  simp [go_sem, hu, chkH, hwk.app0, declP]
theorem c_types_Check (p : Proc) : APure Tryz.prog 72 [.agg p.c] (I (typeErr p)) := by
  refine apure_introB Tryz.func72 rfl (by kernel_rfl) (by simp [Tryz.ntmps72]) rfl ?_
  intro E h hN hh hu hb
  rw [Tryz.ntmps72] at hN
  refine awp_of_wpC _ _ _ ?_
  simp -dsimp [go_sem, hN]
  refine tcall (c_types_check p _) ?_
  rintro r h' ⟨rfl, rfl⟩
  simp -dsimp [go_sem, hN]
theorem c_types_Args (p : Proc) (l : List V) : APure Tryz.prog 30 [.agg p.c, .slice (l.map V.c)] (I (argsErr p l)) := by
  refine apure_introB Tryz.func30 rfl (by kernel_rfl) (by simp [Tryz.ntmps30]) rfl ?_
  intro E h hN hh hu hb
  rw [Tryz.ntmps30] at hN
  refine awp_of_wpC _ _ _ ?_
  simp [go_sem] at hb
  simp -dsimp [go_sem, hN]
  refine tcall_pure (c_types_Check p) ?_
  simp -dsimp [go_sem, hN]
  refine cnd (fun h0 => ?_) (fun h0 => ?_) <;> simp at h0
  · simp -dsimp [go_sem, hN]
    rw [argsErr, if_pos (by by_cases h1 : typeErr p = 0 <;> grind)]
  rw [argsErr, if_neg (by have := h0.2; have := h0.1; omega)]
  have hle : l.length = p.params.length := by have := h0.2; omega
  simp -dsimp [go_sem, hN]
  refine awp_loopN l.length (fun n => argsOk (p.params.drop n) (l.drop n) = argsOk p.params l) (fun n => ⟨[(2, .ptr h.length 0), (20, .slice (l.map V.c)), (21, I l.length), (22, I n)], h ++ [.cells p.c]⟩) (by simp) (Wk.mk (by simp [hh]) (by simp [go_sem]) (by simp [hu, hUnder_ext hu, go_sem]) (by simp [go_sem])) ?_
  intro n hn hI
  have hw := wrapS hn hb.2.1
  simp -dsimp [go_sem, hN]
  refine cnd (fun hc => ?_) (fun hc => ?_) <;> simp at hc
  · have hc' : n < p.params.length := by omega
    rw [drop_next hc, drop_next hc', argsOk] at hI
    simp -dsimp [go_sem, hN, hc, hc']
    refine tgcall_pure (c_types_plain l[n].s) (by simp) ?_
    simp -dsimp [go_sem, hN, hc']
    repeat refine ⟨by grind, ?_⟩
    refine cnd (fun h1 => ?_) (fun h1 => ?_)
    · simp -dsimp [go_sem, hN]
      rw [← hI]
      unfold argOk
      simp at h1
      grind
    · simp -dsimp [go_sem, hN, hw]
      refine ⟨hc, by rw [← hI]; unfold argOk; simp at h1; grind, (Wk.mk (by simp [hh]) (by simp [go_sem]) (by simp [hu, hUnder_ext hu, go_sem]) (by simp [go_sem]))⟩
  · rw [List.drop_eq_nil_of_le (by omega), List.drop_eq_nil_of_le (by omega)] at hI
    simp -dsimp [go_sem, hN]
    exact hI.symm.trans (by simp [argsOk])
end Go.Proofs.YtcmbmfmpelnimaaGreatDoor

set_option maxRecDepth 4000
namespace Go.Proofs.YtcmbmfmpelnimaaGreatDoor
open Go Go.Abs Go.Cw
attribute [local go_sem] Cnt.c Cnt.plus Cnt.times Cnt.larger
set_option maxHeartbeats 1000000 in
theorem c_cost_plus (x y : Cnt) : APure Tryz.prog 115 [.agg x.c, .agg y.c] (.agg (x.plus y).c) := by
  refine apure_introB Tryz.func115 rfl (by kernel_rfl) (by simp [Tryz.ntmps115]) rfl ?_
  intro E h hN hh hu hb
  rw [Tryz.ntmps115] at hN
  refine awp_of_wpC _ _ _ ?_
  simp -dsimp [go_sem, hN]
  refine awp_loopN 4 (fun _ => True) (fun n => ⟨[(2, .ptr h.length 0), (3, .ptr (h.length + 1) 0), (4, .ptr (h.length + 2) 0), (6, I n)], h ++ [.cells ((x.plus y).c.take n ++ x.c.drop n), .cells y.c, .cells [I 0, I 0, I 0, I 0]]⟩) trivial (Wk.mk (by simp [hh]) (by simp [go_sem]) (by simp [hu, hUnder_ext hu, go_sem]) (by simp [go_sem])) ?_
  intro n hn _
  have hw := wrapS hn (by omega)
  have cases : n = 0 ∨ n = 1 ∨ n = 2 ∨ n = 3 ∨ n = 4 := by omega
  rcases cases with rfl | rfl | rfl | rfl | rfl
  · simp -dsimp [go_sem, hN]
    refine awp_drawQ 9 mixed (by kernel_rfl) (by kernel_rfl) ?_
    simp -dsimp [go_sem, hN, if_mn, wrap_3, wrap_4]
    exact (Wk.mk (by simp [hh]) (by simp [go_sem]) (by simp [hu, hUnder_ext hu, go_sem]) (by simp [go_sem]))
  · simp -dsimp [go_sem, hN]
    refine awp_drawQ 9 mixed (by kernel_rfl) (by kernel_rfl) ?_
    simp -dsimp [go_sem, hN, if_mn, wrap_3, wrap_4]
    exact (Wk.mk (by simp [hh]) (by simp [go_sem]) (by simp [hu, hUnder_ext hu, go_sem]) (by simp [go_sem]))
  · simp -dsimp [go_sem, hN]
    refine awp_drawQ 9 mixed (by kernel_rfl) (by kernel_rfl) ?_
    simp -dsimp [go_sem, hN, if_mn, wrap_3, wrap_4]
    exact (Wk.mk (by simp [hh]) (by simp [go_sem]) (by simp [hu, hUnder_ext hu, go_sem]) (by simp [go_sem]))
  · simp -dsimp [go_sem, hN]
    refine awp_drawQ 9 mixed (by kernel_rfl) (by kernel_rfl) ?_
    simp -dsimp [go_sem, hN, if_mn, wrap_3, wrap_4]
    exact (Wk.mk (by simp [hh]) (by simp [go_sem]) (by simp [hu, hUnder_ext hu, go_sem]) (by simp [go_sem]))
  · simp -dsimp [go_sem, hN]
set_option maxHeartbeats 1000000 in
theorem c_cost_larger (x y : Cnt) : APure Tryz.prog 160 [.agg x.c, .agg y.c] (.agg (x.larger y).c) := by
  refine apure_introB Tryz.func160 rfl (by kernel_rfl) (by simp [Tryz.ntmps160]) rfl ?_
  intro E h hN hh hu hb
  rw [Tryz.ntmps160] at hN
  refine awp_of_wpC _ _ _ ?_
  simp -dsimp [go_sem, hN]
  refine awp_loopN 4 (fun _ => True) (fun n => ⟨[(2, .ptr h.length 0), (3, .ptr (h.length + 1) 0), (4, .ptr (h.length + 2) 0), (6, I n)], h ++ [.cells ((x.larger y).c.take n ++ x.c.drop n), .cells y.c, .cells [I 0, I 0, I 0, I 0]]⟩) trivial (Wk.mk (by simp [hh]) (by simp [go_sem]) (by simp [hu, hUnder_ext hu, go_sem]) (by simp [go_sem])) ?_
  intro n hn _
  have hw := wrapS hn (by omega)
  have cases : n = 0 ∨ n = 1 ∨ n = 2 ∨ n = 3 ∨ n = 4 := by omega
  rcases cases with rfl | rfl | rfl | rfl | rfl
  · simp -dsimp [go_sem, hN]
    refine awp_drawQ 8 mixed (by kernel_rfl) (by kernel_rfl) ?_
    simp -dsimp [go_sem, hN, if_mx, wrap_3, wrap_4]
    exact (Wk.mk (by simp [hh]) (by simp [go_sem]) (by simp [hu, hUnder_ext hu, go_sem]) (by simp [go_sem]))
  · simp -dsimp [go_sem, hN]
    refine awp_drawQ 8 mixed (by kernel_rfl) (by kernel_rfl) ?_
    simp -dsimp [go_sem, hN, if_mx, wrap_3, wrap_4]
    exact (Wk.mk (by simp [hh]) (by simp [go_sem]) (by simp [hu, hUnder_ext hu, go_sem]) (by simp [go_sem]))
  · simp -dsimp [go_sem, hN]
    refine awp_drawQ 8 mixed (by kernel_rfl) (by kernel_rfl) ?_
    simp -dsimp [go_sem, hN, if_mx, wrap_3, wrap_4]
    exact (Wk.mk (by simp [hh]) (by simp [go_sem]) (by simp [hu, hUnder_ext hu, go_sem]) (by simp [go_sem]))
  · simp -dsimp [go_sem, hN]
    refine awp_drawQ 8 mixed (by kernel_rfl) (by kernel_rfl) ?_
    simp -dsimp [go_sem, hN, if_mx, wrap_3, wrap_4]
    exact (Wk.mk (by simp [hh]) (by simp [go_sem]) (by simp [hu, hUnder_ext hu, go_sem]) (by simp [go_sem]))
  · simp -dsimp [go_sem, hN]
set_option maxHeartbeats 1000000 in
theorem c_cost_times (x : Cnt) (k : Int) : APure Tryz.prog 161 [.agg x.c, I k] (.agg (x.times k).c) := by
  refine apure_introB Tryz.func161 rfl (by kernel_rfl) (by simp [Tryz.ntmps161]) rfl ?_
  intro E h hN hh hu hb
  rw [Tryz.ntmps161] at hN
  refine awp_of_wpC _ _ _ ?_
  simp -dsimp [go_sem, hN]
  refine awp_loopN 4 (fun _ => True) (fun n => ⟨[(1, I k), (2, .ptr h.length 0), (4, .ptr (h.length + 1) 0), (6, I n)], h ++ [.cells ((x.times k).c.take n ++ x.c.drop n), .cells [I 0, I 0, I 0, I 0]]⟩) trivial (Wk.mk (by simp [hh]) (by simp [go_sem]) (by simp [hu, hUnder_ext hu, go_sem]) (by simp [go_sem])) ?_
  intro n hn _
  have hw := wrapS hn (by omega)
  have cases : n = 0 ∨ n = 1 ∨ n = 2 ∨ n = 3 ∨ n = 4 := by omega
  rcases cases with rfl | rfl | rfl | rfl | rfl
  · simp -dsimp [go_sem, hN, if_mn, wrap_3, wrap_4]
    exact (Wk.mk (by simp [hh]) (by simp [go_sem]) (by simp [hu, hUnder_ext hu, go_sem]) (by simp [go_sem]))
  · simp -dsimp [go_sem, hN, if_mn, wrap_3, wrap_4]
    exact (Wk.mk (by simp [hh]) (by simp [go_sem]) (by simp [hu, hUnder_ext hu, go_sem]) (by simp [go_sem]))
  · simp -dsimp [go_sem, hN, if_mn, wrap_3, wrap_4]
    exact (Wk.mk (by simp [hh]) (by simp [go_sem]) (by simp [hu, hUnder_ext hu, go_sem]) (by simp [go_sem]))
  · simp -dsimp [go_sem, hN, if_mn, wrap_3, wrap_4]
    exact (Wk.mk (by simp [hh]) (by simp [go_sem]) (by simp [hu, hUnder_ext hu, go_sem]) (by simp [go_sem]))
  · simp -dsimp [go_sem, hN]
end Go.Proofs.YtcmbmfmpelnimaaGreatDoor
