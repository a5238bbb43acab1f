/- Part 21 of a proof: W19, W20, W21, W22, W23, W24 -/
import Derived.Shelf.Small.Strs
import Derived.Shelf.Strconv.Itoa4
import Derived.Lib.ItoaLen
import Derived.Test.YtcmbmfmpelnimaaGreatDoorQ09
import Derived.Test.YtcmbmfmpelnimaaGreatDoorQ10
import Derived.Test.YtcmbmfmpelnimaaGreatDoorQ13
import Derived.Test.YtcmbmfmpelnimaaGreatDoorQ14
import Derived.Test.YtcmbmfmpelnimaaGreatDoorQ16
import Derived.Test.YtcmbmfmpelnimaaGreatDoorQ18
import Derived.Test.YtcmbmfmpelnimaaGreatDoorQ19
import Derived.Test.YtcmbmfmpelnimaaGreatDoorQ20
set_option linter.all false

set_option maxRecDepth 4000
set_option maxHeartbeats 2000000
namespace Go.Proofs.YtcmbmfmpelnimaaGreatDoor
open Go Go.Abs Go.Cw
def stopAV (z : Stop) : AV := .iface 86 (.agg [I z.status, I z.code, .slice [], S z.miss])
@[simp] theorem norm_stop (h : AHeap) (z : Stop) : (stopAV z).norm h = stopAV z := by simp [stopAV, AV.norm, normL]
@[simp] theorem under_stop (n : Nat) (z : Stop) : (stopAV z).under n = true := by simp [stopAV, AV.under, underL]
def endV : EV → AEnd
  | .ok v => .ret (.agg v.c)
  | .error z => .panic (stopAV z)
def endU : Except Stop Unit → AEnd
  | .ok _ => .ret (.tuple [])
  | .error z => .panic (stopAV z)
theorem c_interp_abort (code : Int) (h : AHeap) : ACalls Tryz.prog 95 [I code] h fun r h' => r = .panic (stopAV (ab code)) ∧ h' = h := by
  refine acalls_introB Tryz.func95 rfl (by kernel_rfl) (by simp [Tryz.ntmps95]) ?_
  intro E hN hh hu hb hb' hua
  rw [Tryz.ntmps95] at hN
  refine awp_of_wpC _ _ _ ?_
  simp -dsimp [go_sem, hN]
  exact ⟨_, .refl _, h, by simp [go_sem], hwk.refl _, Nat.le_refl _, hu, rfl, rfl⟩
theorem c_interp_integer (n : Int) : APure Tryz.prog 91 [I n] (.agg (vI n).c) := by
  refine apure_introB Tryz.func91 rfl (by kernel_rfl) (by simp [Tryz.ntmps91]) rfl ?_
  intro E h hN hh hu hb
  rw [Tryz.ntmps91] at hN
  refine awp_of_wpC _ _ _ ?_
  simp -dsimp [go_sem, hN]
  exact ⟨rfl, rfl, rfl⟩
theorem c_interp_truth (b : Bool) : APure Tryz.prog 140 [Bo b] (.agg (vB b).c) := by
  refine apure_introB Tryz.func140 rfl (by kernel_rfl) (by simp [Tryz.ntmps140]) rfl ?_
  intro E h hN hh hu hb
  rw [Tryz.ntmps140] at hN
  refine awp_of_wpC _ _ _ ?_
  simp -dsimp [go_sem, hN]
  refine cnd (fun h0 => ?_) (fun h0 => ?_)
  · subst h0
    simp -dsimp [go_sem, hN]
    exact ⟨rfl, rfl, rfl⟩
  · subst h0
    simp -dsimp [go_sem, hN]
    exact ⟨rfl, rfl, rfl⟩
theorem c_interp_must (b : Bool) (h : AHeap) : ACalls Tryz.prog 92 [Bo b] h fun r h' => r = (if b then .ret (.tuple []) else .panic (stopAV (ab 1009))) ∧ h' = h := by
  refine acalls_introB Tryz.func92 rfl (by kernel_rfl) (by simp [Tryz.ntmps92]) ?_
  intro E hN hh hu hb hb' hua
  rw [Tryz.ntmps92] at hN
  refine awp_of_wpC _ _ _ ?_
  simp -dsimp [go_sem, hN]
  refine cnd (fun h0 => ?_) (fun h0 => ?_) <;> simp at h0 <;> subst h0
  · simp -dsimp [go_sem, hN]
    refine tcall (c_interp_abort 1009 h) ?_
    rintro r h' ⟨rfl, rfl⟩
    simp -dsimp [go_sem, hN]
    exact ⟨_, .refl _, _, by simp, hwk.refl _, Nat.le_refl _, hu, rfl, rfl⟩
  · simp -dsimp [go_sem, hN]
    exact ⟨_, .refl _, _, by simp [go_sem], hwk.refl _, Nat.le_refl _, hu, rfl, rfl⟩
theorem c_interp_restart (k : Bytes) (h : AHeap) : ACalls Tryz.prog 168 [S k] h fun r h' => r = .panic (stopAV (rst k)) ∧ h' = h := by
  refine acalls_introB Tryz.func168 rfl (by kernel_rfl) (by simp [Tryz.ntmps168]) ?_
  intro E hN hh hu hb hb' hua
  rw [Tryz.ntmps168] at hN
  refine awp_of_wpC _ _ _ ?_
  simp -dsimp [go_sem, hN]
  exact ⟨_, .refl _, h, by simp [go_sem], hwk.refl _, Nat.le_refl _, hu, rfl, rfl⟩
theorem c_interp_text (s : Bytes) (h : AHeap) : ACalls Tryz.prog 141 [S s] h fun r h' => r = endV (textS s) ∧ h' = h := by
  refine acalls_introB Tryz.func141 rfl (by kernel_rfl) (by simp [Tryz.ntmps141]) ?_
  intro E hN hh hu hb hb' hua
  rw [Tryz.ntmps141] at hN
  refine awp_of_wpC _ _ _ ?_
  simp -dsimp [go_sem, hN]
  refine cnd (fun h0 => ?_) (fun h0 => ?_) <;> simp at h0
  · simp -dsimp [go_sem, hN]
    refine tcall (c_interp_abort 1006 _) ?_
    rintro r h' ⟨rfl, rfl⟩
    simp -dsimp [go_sem, hN]
    rw [textS, if_pos (by omega)]
    exact ⟨_, .refl _, _, by simp [go_sem], by simp [go_sem], by simp, by simp [hu, go_sem], rfl, rfl⟩
  · simp -dsimp [go_sem, hN]
    rw [textS, if_neg (by omega)]
    exact ⟨_, .refl _, h, by simp [go_sem], by simp [go_sem], by simp, by simp [hu, go_sem], rfl, rfl⟩
theorem c_interp_exact (r : Int × Int) (h : AHeap) : ACalls Tryz.prog 138 [I r.1, I r.2] h fun x h' => x = endV (exactS r) ∧ h' = h := by
  refine acalls_introB Tryz.func138 rfl (by kernel_rfl) (by simp [Tryz.ntmps138]) ?_
  intro E hN hh hu hb hb' hua
  rw [Tryz.ntmps138] at hN
  refine awp_of_wpC _ _ _ ?_
  simp -dsimp [go_sem, hN]
  refine cnd (fun h0 => ?_) (fun h0 => ?_) <;> simp at h0
  · simp -dsimp [go_sem, hN]
    refine tcall_pure (c_interp_integer r.1) ?_
    simp -dsimp [go_sem, hN]
    rw [exactS, if_pos h0]
    exact ⟨_, .refl _, h, by simp [go_sem], by simp [go_sem], by simp, by simp [hu, go_sem], rfl, rfl⟩
  simp -dsimp [go_sem, hN]
  refine cnd (fun h1 => ?_) (fun h1 => ?_) <;> simp at h1
  · simp -dsimp [go_sem, hN]
    refine tcall (c_interp_abort 1002 _) ?_
    rintro r' h' ⟨rfl, rfl⟩
    simp -dsimp [go_sem, hN]
    rw [exactS, if_neg h0, if_pos h1]
    exact ⟨_, .refl _, h, by simp [go_sem], by simp [go_sem], by simp, by simp [hu, go_sem], rfl, rfl⟩
  · simp -dsimp [go_sem, hN]
    refine tcall (c_interp_abort 1001 _) ?_
    rintro r' h' ⟨rfl, rfl⟩
    simp -dsimp [go_sem, hN]
    rw [exactS, if_neg h0, if_neg h1]
    exact ⟨_, .refl _, h, by simp [go_sem], by simp [go_sem], by simp, by simp [hu, go_sem], rfl, rfl⟩
theorem c_interp_arithmetic (op a b : Int) (h : AHeap) : ACalls Tryz.prog 144 [I op, I a, I b] h fun x h' => x = endV (arithS op a b) ∧ h' = h := by
  refine acalls_introB Tryz.func144 rfl (by kernel_rfl) (by simp [Tryz.ntmps144]) ?_
  intro E hN hh hu hb hb' hua
  rw [Tryz.ntmps144] at hN
  refine awp_of_wpC _ _ _ ?_
  simp -dsimp [go_sem, hN]
  refine cnd (fun h0 => ?_) (fun h0 => ?_) <;> simp at h0
  · simp -dsimp [go_sem, hN]
    refine tcall_pure (c_num_Add a b) ?_
    simp -dsimp [go_sem, hN]
    refine tcall (c_interp_exact (numAdd a b) _) ?_
    rintro r' h' ⟨rfl, rfl⟩
    rw [arithS,  if_pos h0]
    cases exactS (numAdd a b) <;> simp -dsimp [go_sem, hN, endV] <;> exact ⟨_, .refl _, h, by simp [go_sem], by simp [go_sem], by simp, by simp [hu, go_sem], rfl, rfl⟩
  simp -dsimp [go_sem, hN]
  refine cnd (fun h1 => ?_) (fun h1 => ?_) <;> simp at h1
  · simp -dsimp [go_sem, hN]
    refine tcall_pure (c_num_Sub a b) ?_
    simp -dsimp [go_sem, hN]
    refine tcall (c_interp_exact (numSub a b) _) ?_
    rintro r' h' ⟨rfl, rfl⟩
    rw [arithS, if_neg h0, if_pos h1]
    cases exactS (numSub a b) <;> simp -dsimp [go_sem, hN, endV] <;> exact ⟨_, .refl _, h, by simp [go_sem], by simp [go_sem], by simp, by simp [hu, go_sem], rfl, rfl⟩
  simp -dsimp [go_sem, hN]
  refine cnd (fun h2 => ?_) (fun h2 => ?_) <;> simp at h2
  · simp -dsimp [go_sem, hN]
    refine tcall_pure (c_num_Mul a b) ?_
    simp -dsimp [go_sem, hN]
    refine tcall (c_interp_exact (numMul a b) _) ?_
    rintro r' h' ⟨rfl, rfl⟩
    rw [arithS, if_neg h0, if_neg h1, if_pos h2]
    cases exactS (numMul a b) <;> simp -dsimp [go_sem, hN, endV] <;> exact ⟨_, .refl _, h, by simp [go_sem], by simp [go_sem], by simp, by simp [hu, go_sem], rfl, rfl⟩
  simp -dsimp [go_sem, hN]
  refine cnd (fun h3 => ?_) (fun h3 => ?_) <;> simp at h3
  · simp -dsimp [go_sem, hN]
    refine tcall_pure (c_num_Div a b) ?_
    simp -dsimp [go_sem, hN]
    refine tcall (c_interp_exact (numDiv a b) _) ?_
    rintro r' h' ⟨rfl, rfl⟩
    rw [arithS, if_neg h0, if_neg h1, if_neg h2, if_pos h3]
    cases exactS (numDiv a b) <;> simp -dsimp [go_sem, hN, endV] <;> exact ⟨_, .refl _, h, by simp [go_sem], by simp [go_sem], by simp, by simp [hu, go_sem], rfl, rfl⟩
  simp -dsimp [go_sem, hN]
  refine tcall_pure (c_num_Mod a b) ?_
  simp -dsimp [go_sem, hN]
  refine tcall (c_interp_exact (numMod a b) _) ?_
  rintro r' h' ⟨rfl, rfl⟩
  rw [arithS, if_neg h0, if_neg h1, if_neg h2, if_neg h3]
  cases exactS (numMod a b) <;> simp -dsimp [go_sem, hN, endV] <;> exact ⟨_, .refl _, h, by simp [go_sem], by simp [go_sem], by simp, by simp [hu, go_sem], rfl, rfl⟩
theorem c_must (b : Bool) (h : AHeap) : ACalls Tryz.prog 92 [Bo b] h fun r h' => ((b = true ∧ r = .ret (.tuple [])) ∨ (b = false ∧ r = .panic (stopAV (ab 1009)))) ∧ h' = h :=
  (c_interp_must b h).mono (by
    rintro r h' ⟨rfl, rfl⟩
    cases b
    · exact ⟨.inr ⟨rfl, rfl⟩, rfl⟩
    · exact ⟨.inl ⟨rfl, rfl⟩, rfl⟩)
theorem c_interp_compare (op : Int) (a b : V) (h : AHeap) : ACalls Tryz.prog 145 [I op, .agg a.c, .agg b.c] h fun x h' => x = endV (compS op a b) ∧ h' = h := by
  refine acalls_introB Tryz.func145 rfl (by kernel_rfl) (by simp [Tryz.ntmps145]) ?_
  intro E hN hh hu hb hb' hua
  rw [Tryz.ntmps145] at hN
  refine awp_of_wpC _ _ _ ?_
  simp -dsimp [go_sem, hN]
  repeat refine ⟨by grind, ?_⟩
  refine tcall (c_must _ _) ?_
  rintro r h' ⟨⟨hm, rfl⟩ | ⟨hm, rfl⟩, rfl⟩ <;> simp at hm
  rotate_left
  · simp -dsimp [go_sem, hN]
    rw [compS, if_neg (by grind)]
    exact ⟨_, .refl _, h, by simp [go_sem], by simp [go_sem], by simp, by simp [hu, go_sem], rfl, rfl⟩
  rw [compS, if_pos (by grind)]
  simp -dsimp [go_sem, hN]
  refine tcall_pure (c_value_Compare a b) ?_
  simp -dsimp [go_sem, hN]
  refine cnd (fun h0 => ?_) (fun h0 => ?_) <;> simp at h0
  · simp -dsimp [go_sem, hN]
    refine tcall_pure (c_interp_truth (decide (cmpV a b = 0))) ?_
    simp -dsimp [go_sem, hN]
    rw [cmpBy,  if_pos h0]
    exact ⟨_, .refl _, h, by simp [go_sem], by simp [go_sem], by simp, by simp [hu, go_sem], rfl, rfl⟩
  simp -dsimp [go_sem, hN]
  refine cnd (fun h1 => ?_) (fun h1 => ?_) <;> simp at h1
  · simp -dsimp [go_sem, hN]
    refine tcall_pure (c_interp_truth (!decide (cmpV a b = 0))) ?_
    simp -dsimp [go_sem, hN]
    rw [cmpBy, if_neg h0, if_pos h1]
    exact ⟨_, .refl _, h, by simp [go_sem], by simp [go_sem], by simp, by simp [hu, go_sem], rfl, rfl⟩
  simp -dsimp [go_sem, hN]
  refine cnd (fun h2 => ?_) (fun h2 => ?_) <;> simp at h2
  · simp -dsimp [go_sem, hN]
    refine tcall_pure (c_interp_truth (decide (cmpV a b < 0))) ?_
    simp -dsimp [go_sem, hN]
    rw [cmpBy, if_neg h0, if_neg h1, if_pos h2]
    exact ⟨_, .refl _, h, by simp [go_sem], by simp [go_sem], by simp, by simp [hu, go_sem], rfl, rfl⟩
  simp -dsimp [go_sem, hN]
  refine cnd (fun h3 => ?_) (fun h3 => ?_) <;> simp at h3
  · simp -dsimp [go_sem, hN]
    refine tcall_pure (c_interp_truth (decide (cmpV a b ≤ 0))) ?_
    simp -dsimp [go_sem, hN]
    rw [cmpBy, if_neg h0, if_neg h1, if_neg h2, if_pos h3]
    exact ⟨_, .refl _, h, by simp [go_sem], by simp [go_sem], by simp, by simp [hu, go_sem], rfl, rfl⟩
  simp -dsimp [go_sem, hN]
  refine cnd (fun h4 => ?_) (fun h4 => ?_) <;> simp at h4
  · simp -dsimp [go_sem, hN]
    refine tcall_pure (c_interp_truth (decide (0 < cmpV a b))) ?_
    simp -dsimp [go_sem, hN]
    rw [cmpBy, if_neg h0, if_neg h1, if_neg h2, if_neg h3, if_pos h4]
    exact ⟨_, .refl _, h, by simp [go_sem], by simp [go_sem], by simp, by simp [hu, go_sem], rfl, rfl⟩
  simp -dsimp [go_sem, hN]
  refine tcall_pure (c_interp_truth (decide (0 ≤ cmpV a b))) ?_
  simp -dsimp [go_sem, hN]
  rw [cmpBy, if_neg h0, if_neg h1, if_neg h2, if_neg h3, if_neg h4]
  exact ⟨_, .refl _, h, by simp [go_sem], by simp [go_sem], by simp, by simp [hu, go_sem], rfl, rfl⟩
theorem c_interp_binary (op : Int) (a b : V) (h : AHeap) (hS : a.s.size + b.s.size ≤ 68719476736) : ACalls Tryz.prog 94 [I op, .agg a.c, .agg b.c] h fun x h' => x = endV (binS op a b) ∧ h' = h := by
  refine acalls_introB Tryz.func94 rfl (by kernel_rfl) (by simp [Tryz.ntmps94]) ?_
  intro E hN hh hu hb hb' hua
  rw [Tryz.ntmps94] at hN
  refine awp_of_wpC _ _ _ ?_
  simp -dsimp [go_sem, hN]
  refine cnd (fun h0 => ?_) (fun h0 => ?_) <;> simp at h0
  · simp -dsimp [go_sem, hN, decide_eq_true h0]
    repeat refine ⟨by grind, ?_⟩
    refine tcall (c_must _ _) ?_
    rintro r h' ⟨⟨hm, rfl⟩ | ⟨hm, rfl⟩, rfl⟩ <;> simp at hm
    · simp -dsimp [go_sem, hN]
      refine tcall (c_interp_arithmetic op a.n b.n _) ?_
      rintro r' h' ⟨rfl, rfl⟩
      rw [binS, if_pos (by omega), if_pos (by grind)]
      cases arithS op a.n b.n <;> simp -dsimp [go_sem, hN, endV] <;> exact ⟨_, .refl _, h, by simp [go_sem], by simp [go_sem], by simp, by simp [hu, go_sem], rfl, rfl⟩
    · simp -dsimp [go_sem, hN]
      rw [binS, if_pos (by omega), if_neg (by grind)]
      exact ⟨_, .refl _, h, by simp [go_sem], by simp [go_sem], by simp, by simp [hu, go_sem], rfl, rfl⟩
  simp -dsimp [go_sem, hN]
  refine cnd (fun h1 => ?_) (fun h1 => ?_) <;> simp at h1
  · simp -dsimp [go_sem, hN, decide_eq_true h1]
    repeat refine ⟨by grind, ?_⟩
    refine tcall (c_must _ _) ?_
    rintro r h' ⟨⟨hm, rfl⟩ | ⟨hm, rfl⟩, rfl⟩ <;> simp at hm
    · simp -dsimp [go_sem, hN]
      refine tcall (c_interp_arithmetic op a.n b.n _) ?_
      rintro r' h' ⟨rfl, rfl⟩
      rw [binS, if_pos (by omega), if_pos (by grind)]
      cases arithS op a.n b.n <;> simp -dsimp [go_sem, hN, endV] <;> exact ⟨_, .refl _, h, by simp [go_sem], by simp [go_sem], by simp, by simp [hu, go_sem], rfl, rfl⟩
    · simp -dsimp [go_sem, hN]
      rw [binS, if_pos (by omega), if_neg (by grind)]
      exact ⟨_, .refl _, h, by simp [go_sem], by simp [go_sem], by simp, by simp [hu, go_sem], rfl, rfl⟩
  simp -dsimp [go_sem, hN]
  refine cnd (fun h2 => ?_) (fun h2 => ?_) <;> simp at h2
  · simp -dsimp [go_sem, hN, decide_eq_true h2]
    repeat refine ⟨by grind, ?_⟩
    refine tcall (c_must _ _) ?_
    rintro r h' ⟨⟨hm, rfl⟩ | ⟨hm, rfl⟩, rfl⟩ <;> simp at hm
    · simp -dsimp [go_sem, hN]
      refine tcall (c_interp_arithmetic op a.n b.n _) ?_
      rintro r' h' ⟨rfl, rfl⟩
      rw [binS, if_pos (by omega), if_pos (by grind)]
      cases arithS op a.n b.n <;> simp -dsimp [go_sem, hN, endV] <;> exact ⟨_, .refl _, h, by simp [go_sem], by simp [go_sem], by simp, by simp [hu, go_sem], rfl, rfl⟩
    · simp -dsimp [go_sem, hN]
      rw [binS, if_pos (by omega), if_neg (by grind)]
      exact ⟨_, .refl _, h, by simp [go_sem], by simp [go_sem], by simp, by simp [hu, go_sem], rfl, rfl⟩
  simp -dsimp [go_sem, hN]
  refine cnd (fun h3 => ?_) (fun h3 => ?_) <;> simp at h3
  · simp -dsimp [go_sem, hN, decide_eq_true h3]
    repeat refine ⟨by grind, ?_⟩
    refine tcall (c_must _ _) ?_
    rintro r h' ⟨⟨hm, rfl⟩ | ⟨hm, rfl⟩, rfl⟩ <;> simp at hm
    · simp -dsimp [go_sem, hN]
      refine tcall (c_interp_arithmetic op a.n b.n _) ?_
      rintro r' h' ⟨rfl, rfl⟩
      rw [binS, if_pos (by omega), if_pos (by grind)]
      cases arithS op a.n b.n <;> simp -dsimp [go_sem, hN, endV] <;> exact ⟨_, .refl _, h, by simp [go_sem], by simp [go_sem], by simp, by simp [hu, go_sem], rfl, rfl⟩
    · simp -dsimp [go_sem, hN]
      rw [binS, if_pos (by omega), if_neg (by grind)]
      exact ⟨_, .refl _, h, by simp [go_sem], by simp [go_sem], by simp, by simp [hu, go_sem], rfl, rfl⟩
  simp -dsimp [go_sem, hN]
  refine cnd (fun h4 => ?_) (fun h4 => ?_) <;> simp at h4
  · simp -dsimp [go_sem, hN]
    repeat refine ⟨by grind, ?_⟩
    refine tcall (c_must _ _) ?_
    rintro r h' ⟨⟨hm, rfl⟩ | ⟨hm, rfl⟩, rfl⟩ <;> simp at hm
    · simp -dsimp [go_sem, hN]
      refine tcall (c_interp_arithmetic op a.n b.n _) ?_
      rintro r' h' ⟨rfl, rfl⟩
      rw [binS, if_pos (by omega), if_pos (by grind)]
      cases arithS op a.n b.n <;> simp -dsimp [go_sem, hN, endV] <;> exact ⟨_, .refl _, h, by simp [go_sem], by simp [go_sem], by simp, by simp [hu, go_sem], rfl, rfl⟩
    · simp -dsimp [go_sem, hN]
      rw [binS, if_pos (by omega), if_neg (by grind)]
      exact ⟨_, .refl _, h, by simp [go_sem], by simp [go_sem], by simp, by simp [hu, go_sem], rfl, rfl⟩
  simp -dsimp [go_sem, hN]
  refine cnd (fun h5 => ?_) (fun h5 => ?_) <;> simp at h5
  · simp -dsimp [go_sem, hN]
    repeat refine ⟨by grind, ?_⟩
    refine tcall (c_must _ _) ?_
    rintro r h' ⟨⟨hm, rfl⟩ | ⟨hm, rfl⟩, rfl⟩ <;> simp at hm
    rotate_left
    · simp -dsimp [go_sem, hN]
      rw [binS, if_neg (by omega), if_pos h5, if_neg (by grind)]
      exact ⟨_, .refl _, h, by simp [go_sem], by simp [go_sem], by simp, by simp [hu, go_sem], rfl, rfl⟩
    rw [binS, if_neg (by omega), if_pos h5, if_pos (by grind)]
    simp -dsimp [go_sem, hN]
    repeat refine ⟨by grind, ?_⟩
    refine tcall_pure (c_interp_truth (decide (a.n = 1) && decide (b.n = 1))) ?_
    simp -dsimp [go_sem, hN]
    exact ⟨_, .refl _, h, by simp [go_sem], by simp [go_sem], by simp, by simp [hu, go_sem], rfl, rfl⟩
  simp -dsimp [go_sem, hN]
  refine cnd (fun h6 => ?_) (fun h6 => ?_) <;> simp at h6
  · simp -dsimp [go_sem, hN]
    repeat refine ⟨by grind, ?_⟩
    refine tcall (c_must _ _) ?_
    rintro r h' ⟨⟨hm, rfl⟩ | ⟨hm, rfl⟩, rfl⟩ <;> simp at hm
    rotate_left
    · simp -dsimp [go_sem, hN]
      rw [binS, if_neg (by omega), if_neg h5, if_pos h6, if_neg (by grind)]
      exact ⟨_, .refl _, h, by simp [go_sem], by simp [go_sem], by simp, by simp [hu, go_sem], rfl, rfl⟩
    rw [binS, if_neg (by omega), if_neg h5, if_pos h6, if_pos (by grind)]
    simp -dsimp [go_sem, hN]
    repeat refine ⟨by grind, ?_⟩
    refine tcall_pure (c_interp_truth (decide (a.n = 1) || decide (b.n = 1))) ?_
    simp -dsimp [go_sem, hN]
    exact ⟨_, .refl _, h, by simp [go_sem], by simp [go_sem], by simp, by simp [hu, go_sem], rfl, rfl⟩
  simp -dsimp [go_sem, hN]
  refine cnd (fun h7 => ?_) (fun h7 => ?_) <;> simp at h7
  · simp -dsimp [go_sem, hN]
    repeat refine ⟨by grind, ?_⟩
    refine tcall (c_must _ _) ?_
    rintro r h' ⟨⟨hm, rfl⟩ | ⟨hm, rfl⟩, rfl⟩ <;> simp at hm
    rotate_left
    · simp -dsimp [go_sem, hN]
      rw [binS, if_neg (by omega), if_neg h5, if_neg h6, if_pos h7, if_neg (by grind)]
      exact ⟨_, .refl _, h, by simp [go_sem], by simp [go_sem], by simp, by simp [hu, go_sem], rfl, rfl⟩
    rw [binS, if_neg (by omega), if_neg h5, if_neg h6, if_pos h7, if_pos (by grind)]
    simp -dsimp [go_sem, hN]
    refine ⟨hS, ?_⟩
    refine tcall (c_interp_text (a.s ++ b.s) _) ?_
    rintro r' h' ⟨rfl, rfl⟩
    cases textS (a.s ++ b.s) <;> simp -dsimp [go_sem, hN, endV] <;> exact ⟨_, .refl _, h, by simp [go_sem], by simp [go_sem], by simp, by simp [hu, go_sem], rfl, rfl⟩
  simp -dsimp [go_sem, hN]
  refine tcall (c_interp_compare op a b _) ?_
  rintro r' h' ⟨rfl, rfl⟩
  rw [binS, if_neg (by omega), if_neg h5, if_neg h6, if_neg h7]
  cases compS op a b <;> simp -dsimp [go_sem, hN, endV] <;> exact ⟨_, .refl _, h, by simp [go_sem], by simp [go_sem], by simp, by simp [hu, go_sem], rfl, rfl⟩
end Go.Proofs.YtcmbmfmpelnimaaGreatDoor

set_option maxRecDepth 4000
namespace Go.Proofs.YtcmbmfmpelnimaaGreatDoor
open Go Go.Abs Go.Cw Go.Shelf
def renF : Ren := ⟨fun
  | 129 => 275 | 173 => 191 | 246 => 236 | 283 => 259 | 284 => 260 | 285 => 261 | 286 => 262
  | 317 => 274 | 318 => 276 | 319 => 277 | 320 => 278 | 337 => 284 | 338 => 285 | x => x,
  fun | 0 => 0 | 2 => 2 | 3 => 3 | 4 => 4 | 5 => 5 | 9 => 9 | 20 => 20 | 37 => 252 | 46 => 185 | 51 => 281 | 53 => 204 | 171 => 268 | 173 => 271 | 212 => 280 | 213 => 282 | 232 => 287 | 233 => 288 | x => x,
  fun | 17 => 1 | 18 => 2 | 19 => 3 | x => x⟩
theorem laysF0 : Lays.n173 Tryz.prog renF := by
  constructor <;> first | exact fun _ => by kernel_rfl | kernel_rfl
theorem laysF : LaysM.n173 Tryz.prog renF := { laysF0 with i0 := by kernel_rfl, i2 := by kernel_rfl, i3 := by kernel_rfl, i4 := by kernel_rfl, i5 := by kernel_rfl, i9 := by kernel_rfl, i20 := by kernel_rfl, i37 := by kernel_rfl, i46 := by kernel_rfl, i51 := by kernel_rfl, i53 := by kernel_rfl, i171 := by kernel_rfl, i173 := by kernel_rfl, i212 := by kernel_rfl, i232 := by kernel_rfl, i233 := by kernel_rfl, m17 := by kernel_rfl, m18 := by kernel_rfl, m19 := by kernel_rfl }
def tabV : Array Value := (Lib.pow10Tab.map fun z => Value.int .u64 z).toArray
def tabO (T : TypeId) (x : Nat × Nat) : AObj := .raw 1 (fun _ => .cells tabV T x) []
def fmtI (n : Int) : Bytes := ⟨(Lib.itoa n).toArray⟩
theorem hsim_grow {c : Ctx} {h : AHeap} {w : World} (hs : HSim c h w) (k : Nat) (os : Array Obj) : HSim c h (Sort.grow (w.drewN k) os) ∧ (⟨0, c, h, w⟩ : Ent).ok c h (Sort.grow (w.drewN k) os) := by
  have hw : ∀ b, b < w.heap.size → (Sort.grow (w.drewN k) os).heap[b]? = w.heap[b]? := fun b hb => by
    show (w.heap ++ os)[b]? = _
    rw [Array.getElem?_append_left hb]
  refine ⟨hs.ext hw (.refl c) (fun _ _ => rfl) (fun _ _ _ h => .inl h) hs.dom, ?_⟩
  exact (Ent.ok.refl 0 hs).ext' hs hw (.refl c) (fun _ => rfl) rfl rfl rfl (by show _ ≤ (w.heap ++ os).size; simp) (fun _ _ _ h => .inl h)
theorem c_FormatInt (n : Int) (hn : i64 n) (h : AHeap) (g : Nat) {T : TypeId} {x : Nat × Nat} (hg : h[g]? = some (tabO T x)) (hsz : (fmtI n).size ≤ 68719476736) :
    ACalls Tryz.prog 191 [I n, I 10] h fun r h' => r = .ret (S (fmtI n)) ∧ h' = h := by
  refine ⟨⟨_, laysF.f173, rfl, rfl⟩, fun c w vs hs ha => ?_⟩
  obtain ⟨hb, us, hv, _⟩ := hs.obj _ _ hg
  have htab : Lib.TabIs Tryz.prog w "internal/strconv.uint64pow10" .u64 Lib.pow10Tab := by
    unfold Lib.TabIs World.var?
    rw [laysF.m17]
    simp only [Option.bind_some]
    show (match w.heap[1]? with | some (.cells cs _ _) => some cs | _ => none) = _
    rw [hv]
    rfl
  have he : vs = #[.int .i64 n, .int .i64 10] := relL_vals (l := [.int .i64 n, .int .i64 10]) ha
  rw [he]
  refine (Any.strconv_FormatInt_10 laysF n hn.1 hn.2 w htab).mono ?_
  rintro e w' ⟨rfl, k, os, rfl⟩
  obtain ⟨g1, g2⟩ := hsim_grow hs k os
  exact ⟨_, h, c, ⟨rfl, rfl⟩, .val _ (by simpa [strOk] using hsz), g1, g2⟩
theorem c_num_Format (n : Int) (hn : i64 n) (h : AHeap) (g : Nat) {T : TypeId} {x : Nat × Nat} (hg : h[g]? = some (tabO T x)) :
    ACalls Tryz.prog 142 [I n] h fun r h' => r = .ret (S (fmtI n)) ∧ h' = h := by
  have hsz : (fmtI n).size ≤ 68719476736 := by
    have := Lib.itoa_length_le n hn.1 hn.2
    show (Lib.itoa n).length ≤ _
    omega
  refine acalls_introB Tryz.func142 rfl (by kernel_rfl) (by simp [Tryz.ntmps142]) ?_
  intro E hN hh hu hb hb' hua
  rw [Tryz.ntmps142] at hN
  refine awp_of_wpC _ _ _ ?_
  simp -dsimp [go_sem, hN]
  refine tcall (c_FormatInt n hn h g hg hsz) ?_
  rintro r h' ⟨rfl, rfl⟩
  simp -dsimp [go_sem, hN]
  exact ⟨_, .refl _, _, rfl, hwk.refl _, Nat.le_refl _, hu, rfl, rfl⟩
end Go.Proofs.YtcmbmfmpelnimaaGreatDoor

set_option maxRecDepth 4000
namespace Go.Proofs.YtcmbmfmpelnimaaGreatDoor
open Go Go.Abs Go.Cw Go.Shelf Go.Lib
def renI : Ren := ⟨fun | 17 => 283 | 22 => 222 | 29 => 252 | 30 => 253 | 36 => 269 | x => x, fun | 0 => 0 | 3 => 3 | 4 => 4 | 9 => 9 | 24 => 27 | x => x, fun x => x⟩
theorem laysI : Lays2.n22 Tryz.prog renI := by
  constructor <;> first | exact fun _ => by kernel_rfl | kernel_rfl
theorem c_cmpNaN_str (s : Bytes) : APure Tryz.prog 208 [S s] (Bo false) := by
  refine apure_introB Tryz.func208 rfl (by kernel_rfl) (by simp [Tryz.ntmps208]) rfl ?_
  intro E h hN hh hu hb
  rw [Tryz.ntmps208] at hN
  refine awp_of_wpC _ _ _ ?_
  simp -dsimp [go_sem, hN]
theorem c_isNaN_str (s : Bytes) : APure Tryz.prog 154 [S s] (Bo false) := by
  refine apure_introB Tryz.func154 rfl (by kernel_rfl) (by simp [Tryz.ntmps154]) rfl ?_
  intro E h hN hh hu hb
  rw [Tryz.ntmps154] at hN
  refine awp_of_wpC _ _ _ ?_
  simp -dsimp [go_sem, hN]
theorem c_less_str (a b : Bytes) : APure Tryz.prog 153 [S a, S b] (Bo (sLt a b)) := by
  refine apure_introB Tryz.func153 rfl (by kernel_rfl) (by simp [Tryz.ntmps153]) rfl ?_
  intro E h hN hh hu hb
  rw [Tryz.ntmps153] at hN
  refine awp_of_wpC _ _ _ ?_
  simp -dsimp [go_sem, hN]
  refine tcall_pure (c_cmpNaN_str a) ?_
  simp -dsimp [go_sem, hN]
  refine tgcall_false ?_
  simp -dsimp [go_sem, hN]
theorem c_BinarySearch (l : List Bytes) (k : Bytes) (hs : ascS l) : APure Tryz.prog 113 [.slice (l.map sRow), S k] (.tuple [I (posS k l), Bo (decide (l[posS k l]? = some k))]) := by
  refine apure_introB Tryz.func113 rfl (by kernel_rfl) (by simp [Tryz.ntmps113]) rfl ?_
  intro E h hN hh hu hb
  rw [Tryz.ntmps113] at hN
  refine awp_of_wpC _ _ _ ?_
  simp [go_sem] at hb
  have hp := posS_le k l
  simp -dsimp [go_sem, hN]
  refine awp_loopM (α := Nat × Nat) (fun x => x.1 ≤ posS k l ∧ posS k l ≤ x.2 ∧ x.2 ≤ l.length) (fun x => ⟨[(0, .slice (l.map sRow)), (1, S k), (6, I l.length), (7, I x.1), (8, I x.2)], h⟩) (fun x => x.2 - x.1) (0, l.length) ⟨by simp, hp, by simp⟩ (Wk.mk (by simp [hh]) (by simp [go_sem]) (by simp [hu, hUnder_ext hu, go_sem]) (by simp [go_sem])) ?_
  rintro ⟨i, j⟩ ⟨h1, h2, h3⟩
  simp only at h1 h2 h3
  simp -dsimp [go_sem, hN]
  refine cnd (fun hc => ?_) (fun hc => ?_) <;> simp at hc
  · have hm : IntKind.i64.wrap ((IntKind.u64.wrap (IntKind.i64.wrap ((i : Int) + j))).fdiv 2) = (((i + j) / 2 : Nat) : Int) := by
      have h0 := hb.1.1
      have e0 : IntKind.i64.wrap ((i : Int) + j) = (i : Int) + j := wrapI (by omega) (by omega)
      rw [e0]
      have : IntKind.u64.wrap ((i : Int) + j) = (i : Int) + j := by
        simp only [IntKind.wrap, IntKind.bits, IntKind.signed]
        simp
        omega
      rw [this]
      have e1 : ((i : Int) + j).fdiv 2 = (((i + j) / 2 : Nat) : Int) := by
        rw [Int.fdiv_eq_ediv_of_nonneg _ (by omega)]
        omega
      rw [e1, wrapI (by omega) (by omega)]
    have hlt : (i + j) / 2 < l.length := by omega
    have hi' := posS_lt (k := k) hs ((i + j) / 2) hlt
    generalize hq : (i + j) / 2 = q at hm hlt hi'
    have hw : IntKind.i64.wrap ((q : Int) + 1) = ((q + 1 : Nat) : Int) := by have h0 := hb.1.1; rw [wrapI (by omega) (by omega)]; omega
    simp -dsimp [go_sem, hN, hm, hlt, sRow]
    refine tcall_pure (c_less_str l[q] k) ?_
    simp -dsimp [go_sem, hN]
    refine cnd (fun hc2 => ?_) (fun hc2 => ?_)
    · simp -dsimp [go_sem, hN, hw]
      exact ⟨q + 1, j, ⟨by have := hi'.2 hc2; omega, h2, h3⟩, by omega, (Wk.mk (by simp [hh]) (by simp [go_sem]) (by simp [hu, hUnder_ext hu, go_sem]) (by simp [go_sem]))⟩
    · simp -dsimp [go_sem, hN]
      refine ⟨i, q, ⟨h1, ?_, by omega⟩, by omega, (Wk.mk (by simp [hh]) (by simp [go_sem]) (by simp [hu, hUnder_ext hu, go_sem]) (by simp [go_sem]))⟩
      rcases Nat.lt_or_ge q (posS k l) with h5 | h5
      · have := hi'.1 h5; rw [this] at hc2; cases hc2
      · exact h5
  · have hi : i = posS k l := by omega
    subst hi
    by_cases hlt : posS k l < l.length
    · simp -dsimp [go_sem, hN, hlt, sRow]
      repeat refine ⟨by grind, ?_⟩
      refine tgcall_pure (c_isNaN_str _) (by simp) ?_
      simp -dsimp [go_sem, hN]
      refine tgcall_false ?_
      simp -dsimp [go_sem, hN]
      rw [List.getElem?_eq_getElem hlt]
      simp
    · have hd : decide (posS k l < l.length) = false := by simpa using hlt
      have hnone : l[posS k l]? = none := List.getElem?_eq_none (by omega)
      simp -dsimp [go_sem, hN, hd, hnone]
      refine tgcall_false ?_
      simp -dsimp [go_sem, hN]
      refine tgcall_false ?_
      simp -dsimp [go_sem, hN]
      rw [hnone]; simp
theorem c_with (h : AHeap) (i : Nat) (l : List Bytes) (hi : h[i]? = some (.uarr 9 1 (l.map sRow))) (hlen : l.length + 1 ≤ 68719476736) (key : Bytes) (ha : ascS l) :
    ACalls Tryz.prog 169 [.own i l.length, S key] h fun r h' => r = .ret (.own i (withS l key).length) ∧ h' = h.set i (.uarr 9 1 ((withS l key).map sRow)) := by
  refine acalls_intro Tryz.func169 rfl (by kernel_rfl) (by simp [Tryz.ntmps169]) ?_
  intro E hN hh hu
  rw [Tryz.ntmps169] at hN
  have hil : i < h.length := (List.getElem?_eq_some_iff.1 hi).1
  have hn : (l.map sRow).length = l.length := by simp
  have hB := c_BinarySearch l key ha
  refine awp_seq (awp_ops ?_)
  simp [go_sem, hN]
  refine awp_seq (awp_opsB [_, _] ?_)
  simp [go_sem, hN, borStep, borV, hi, hn]
  refine ⟨_, hB, by simp [flatB], ?_⟩
  simp [go_sem, hN]
  refine awp_seq (awp_seq (awp_ops ?_))
  simp [go_sem, hN]
  have hle := posS_le key l
  rcases hc : decide (l[posS key l]? = some key) with _ | _
  · have hw : withS l key = l.take (posS key l) ++ key :: l.drop (posS key l) := by rw [withS, if_neg (by simpa using hc)]
    refine awp_cond (b := false) (by simpa [go_sem] using hc) (fun h => by cases h) (fun _ => ?_)
    refine awp_skip ?_
    simp
    refine awp_seq (awp_opsT [_, _, _] _ ?_)
    simp [go_sem, hN]
    intro c a w s k
    refine wp_insert laysI s k (T := 27) (x := .tmp 17) (xa := .tmp 15) (xb := .tmp 16) (f := .func 222) (d1 := 18) rfl rfl rfl (by omega) (by simp [dstOk, hN]) rfl rfl (by simp [renI]) (by simp [renI]) (by simp [renI]) (by simp [go_sem]) (key := key) (by simp [go_sem]) (i := i) (n := l.length) (by simp [go_sem]) (pos := posS key l) (by simp [go_sem]) (by simp) (by simp) rfl hi hn hle hlen
      ⟨_, Tryz.func222, by kernel_rfl, by kernel_rfl⟩ fun c' a' w' s' k' => ?_
    refine opsF_sound _ [_, _, _, _, _] _ rfl ?_ c' a' w' s' k'
    simp [go_sem, hN]
    have hl' : (withS l key).length = l.length + 1 := by rw [hw]; simp; omega
    refine awp_ret ⟨⟨trivial, trivial⟩, .own i (l.length + 1), _, ?_, ?_, hwk.refl _, ?_, ?_, by rw [hl'], by rw [hw]; simp [List.map_take, List.map_drop, sRow, renI]⟩
    · simp [go_sem, hil]
    · simp [AV.under, hil]
    · simp
    · rw [hUnder_iff] at hu ⊢
      intro o ho
      simp only [List.length_set]
      rcases List.mem_or_eq_of_mem_set ho with ho | rfl
      · exact hu o ho
      · rfl
  · have hw : withS l key = l := by rw [withS, if_pos (by simpa using hc)]
    refine awp_cond (b := true) (by simpa [go_sem] using hc) (fun _ => ?_) (fun h => by cases h)
    refine awp_seq (awp_ops ?_)
    simp [go_sem, hN]
    rw [hw, set_same hi]
    refine awp_ret ⟨⟨trivial, trivial⟩, .own i l.length, h, by simp [go_sem, hi], by simp [AV.under, hil], hwk.refl _, Nat.le_refl _, hu, rfl, rfl⟩
end Go.Proofs.YtcmbmfmpelnimaaGreatDoor

set_option maxRecDepth 4000
set_option maxHeartbeats 2000000
namespace Go.Proofs.YtcmbmfmpelnimaaGreatDoor
open Go Go.Abs Go.Cw
attribute [local go_sem] mC
variable {C : Cfg} {tT : TypeId} {tx : Nat × Nat} {g m v o io ir ip : Nat} {K : MQ → AHeap} {n0 : Nat}
abbrev MHs (C : Cfg) (tT : TypeId) (tx : Nat × Nat) (g m v o io ir ip : Nat) (K : MQ → AHeap) (n0 : Nat) : Prop := MH C (tabO tT tx) 47 9 g m v o io ir ip K n0
theorem c_machine_tick (Y : MHs C tT tx g m v o io ir ip K n0) (s : MS) (hst : s.steps ≤ 100000) :
    ACalls Tryz.prog 79 [.ptr m 0] (K s.q) fun r h' => r = endU (tickS s).1 ∧ h' = K (tickS s).2.q := by
  refine acalls_introB Tryz.func79 rfl (by kernel_rfl) (by simp [Tryz.ntmps79]) ?_
  intro E hN hh hu hb hb' hua
  rw [Tryz.ntmps79] at hN
  refine awp_of_wpC _ _ _ ?_
  have hw : IntKind.i64.wrap ((s.steps : Int) + 1) = (s.steps : Int) + 1 := wrapI (by omega) (by omega)
  simp -dsimp [go_sem, hN, Y.lm, hw, Y.smx]
  refine cnd (fun h0 => ?_) (fun h0 => ?_) <;> simp at h0
  · simp -dsimp [go_sem, hN]
    refine tcall (c_interp_abort 1008 _) ?_
    rintro r h' ⟨rfl, rfl⟩
    simp -dsimp [go_sem, hN]
    rw [tickS, if_pos (by omega)]
    exact ⟨_, .refl _, K (tickS s).2.q, by simp [go_sem], by first | exact hwk.refl _ | exact hwk.app0 _ | simp [hwk.refl], by simp [Y.len], Y.und' _, by first | rfl | simp, by first | rfl | simp [MS.q]⟩
  · simp -dsimp [go_sem, hN]
    rw [tickS, if_neg (by omega)]
    exact ⟨_, .refl _, K (tickS s).2.q, by simp [go_sem], by first | exact hwk.refl _ | exact hwk.app0 _ | simp [hwk.refl], by simp [Y.len], Y.und' _, by first | rfl | simp, by first | rfl | simp [MS.q]⟩
theorem c_machine_emit (Y : MHs C tT tx g m v o io ir ip K n0) (s : MS) (x : V) (hl : s.out.length ≤ 100) :
    ACalls Tryz.prog 122 [.ptr m 0, .agg x.c] (K s.q) fun r h' => r = endU (emitS x s).1 ∧ h' = K (emitS x s).2.q := by
  refine acalls_introB Tryz.func122 rfl (by kernel_rfl) (by simp [Tryz.ntmps122]) ?_
  intro E hN hh hu hb hb' hua
  rw [Tryz.ntmps122] at hN
  refine awp_of_wpC _ _ _ ?_
  simp -dsimp [go_sem, hN, Y.lm', Y.lio']
  refine cnd (fun h0 => ?_) (fun h0 => ?_) <;> simp at h0
  · simp -dsimp [go_sem, hN]
    refine tcall (c_interp_abort 1007 _) ?_
    rintro r h' ⟨rfl, rfl⟩
    simp -dsimp [go_sem, hN]
    rw [emitS, if_pos (by omega)]
    exact ⟨_, .refl _, K s.q, by simp [go_sem], by first | exact hwk.refl _ | exact hwk.app0 _ | simp [hwk.refl], by simp [Y.len], Y.und' _, by first | rfl | simp, by first | rfl | simp [MS.q]⟩
  simp -dsimp [go_sem, hN]
  refine awp_drawP 10 9 [0] mixed (by kernel_rfl) ?_
  simp -dsimp [go_sem, hN, Y.lm', Y.lio', Y.len, Y.loc, Y.sioA, Y.smx']
  refine ⟨by omega, ?_⟩
  rw [emitS, if_neg (by omega)]
  exact ⟨_, .refl _, K ⟨s.vars, s.own, s.out ++ [x], s.reads, s.puts, s.out.length + 1, s.reads.length, s.puts.length, s.steps⟩, by simp [go_sem], by first | exact hwk.refl _ | exact hwk.app0 _ | simp [hwk.refl], by simp [Y.len], Y.und' _, by first | rfl | simp, by first | rfl | simp [MS.q]⟩
theorem c_machine_fetch (Y : MHs C tT tx g m v o io ir ip K n0) (s : MS) (key : Bytes) (ha : ascS s.reads) (hl : s.reads.length + 1 ≤ 68719476736) :
    ACalls Tryz.prog 143 [.ptr m 0, S key] (K s.q) fun r h' => r = endV (fetchS C key s).1 ∧ h' = K (fetchS C key s).2.q := by
  refine acalls_introB Tryz.func143 rfl (by kernel_rfl) (by simp [Tryz.ntmps143]) ?_
  intro E hN hh hu hb hb' hua
  rw [Tryz.ntmps143] at hN
  refine awp_of_wpC _ _ _ ?_
  simp -dsimp [go_sem, hN]
  refine tcall_pure (c_keys_Valid key) ?_
  simp -dsimp [go_sem, hN]
  refine cnd (fun h0 => ?_) (fun h0 => ?_) <;> simp at h0
  · simp -dsimp [go_sem, hN]
    refine tcall (c_interp_abort 1004 _) ?_
    rintro r h' ⟨rfl, rfl⟩
    simp -dsimp [go_sem, hN]
    rw [fetchS, if_pos h0]
    exact ⟨_, .refl _, K s.q, by simp [go_sem], by first | exact hwk.refl _ | exact hwk.app0 _ | simp [hwk.refl], by simp [Y.len], Y.und' _, by first | rfl | simp, by first | rfl | simp [MS.q]⟩
  rw [fetchS, if_neg (by simp [h0])]
  rcases hk : kGet s.own key with _ | w
  rotate_left
  · simp -dsimp [go_sem, hN, Y.lm', Y.lo', hk]
    exact ⟨_, .refl _, K s.q, by simp [go_sem], by first | exact hwk.refl _ | exact hwk.app0 _ | simp [hwk.refl], by simp [Y.len], Y.und' _, by first | rfl | simp, by first | rfl | simp [MS.q]⟩
  simp -dsimp [go_sem, hN, Y.lm', Y.lo', hk]
  refine tgcall_pure (c_Contains_S C.rd key) (by simp) ?_
  simp -dsimp [go_sem, hN]
  repeat refine ⟨by grind, ?_⟩
  refine cnd (fun h1 => ?_) (fun h1 => ?_) <;> simp at h1
  · simp -dsimp [go_sem, hN]
    refine tcall (c_interp_restart key _) ?_
    rintro r h' ⟨rfl, rfl⟩
    simp -dsimp [go_sem, hN]
    simp only [h1.1, h1.2, and_self, if_true]
    exact ⟨_, .refl _, K s.q, by simp [go_sem], by first | exact hwk.refl _ | exact hwk.app0 _ | simp [hwk.refl], by simp [Y.len], Y.und' _, by first | rfl | simp, by first | rfl | simp [MS.q]⟩
  have h1' : ¬ (C.all = false ∧ hasK C.rd key = false) := by rintro ⟨h2, h3⟩; have := h1 h2; rw [this] at h3; cases h3
  simp only [h1', if_false]
  simp -dsimp [go_sem, hN, Y.lm', Y.lir']
  refine tcall (c_with _ _ s.reads (Y.lir' s.q _) (by omega) key ha) ?_
  rintro r h' ⟨rfl, rfl⟩
  simp -dsimp [go_sem, hN, Y.sir', Y.lm', Y.smx', Y.len, Y.loc, Y.sloc, Y.loc1, Y.sloc1]
  refine tcall_pure (c_state_Get C.state key) ?_
  simp -dsimp [go_sem, hN, Y.sir', Y.lm', Y.smx', Y.len, Y.loc, Y.sloc, Y.loc1, Y.sloc1]
  exact ⟨_, .refl _, K (MS.q { s with reads := withS s.reads key }), by simp [go_sem], by first | exact hwk.refl _ | exact hwk.app0 _ | simp [hwk.refl], by simp [Y.len], Y.und' _, by first | rfl | simp, by first | rfl | simp [MS.q]⟩
theorem c_machine_store (Y : MHs C tT tx g m v o io ir ip K n0) (s : MS) (key : Bytes) (x : V) (ha : ascS s.puts) (hl : s.puts.length + 1 ≤ 68719476736) :
    ACalls Tryz.prog 120 [.ptr m 0, S key, .agg x.c] (K s.q) fun r h' => r = endU (storeS C key x s).1 ∧ h' = K (storeS C key x s).2.q := by
  refine acalls_introB Tryz.func120 rfl (by kernel_rfl) (by simp [Tryz.ntmps120]) ?_
  intro E hN hh hu hb hb' hua
  rw [Tryz.ntmps120] at hN
  refine awp_of_wpC _ _ _ ?_
  simp -dsimp [go_sem, hN]
  refine tcall_pure (c_keys_Valid key) ?_
  simp -dsimp [go_sem, hN]
  refine cnd (fun h0 => ?_) (fun h0 => ?_) <;> simp at h0
  · simp -dsimp [go_sem, hN]
    refine tcall (c_interp_abort 1004 _) ?_
    rintro r h' ⟨rfl, rfl⟩
    simp -dsimp [go_sem, hN]
    rw [storeS, if_pos h0]
    exact ⟨_, .refl _, K s.q, by simp [go_sem], by first | exact hwk.refl _ | exact hwk.app0 _ | simp [hwk.refl], by simp [Y.len], Y.und' _, by first | rfl | simp, by first | rfl | simp [MS.q]⟩
  rw [storeS, if_neg (by simp [h0])]
  simp -dsimp [go_sem, hN, Y.lm']
  refine tgcall_pure (c_Contains_S C.wr key) (by simp) ?_
  simp -dsimp [go_sem, hN]
  repeat refine ⟨by grind, ?_⟩
  refine cnd (fun h1 => ?_) (fun h1 => ?_) <;> simp at h1
  · simp -dsimp [go_sem, hN]
    refine tcall (c_interp_restart key _) ?_
    rintro r h' ⟨rfl, rfl⟩
    simp -dsimp [go_sem, hN]
    simp only [h1.1, h1.2, and_self, if_true]
    exact ⟨_, .refl _, K s.q, by simp [go_sem], by first | exact hwk.refl _ | exact hwk.app0 _ | simp [hwk.refl], by simp [Y.len], Y.und' _, by first | rfl | simp, by first | rfl | simp [MS.q]⟩
  have h1' : ¬ (C.all = false ∧ hasK C.wr key = false) := by rintro ⟨h2, h3⟩; have := h1 h2; rw [this] at h3; cases h3
  simp only [h1', if_false]
  simp -dsimp [go_sem, hN, Y.lm', Y.lip']
  refine tcall (c_with _ _ s.puts (Y.lip' s.q _) (by omega) key ha) ?_
  rintro r h' ⟨rfl, rfl⟩
  simp -dsimp [go_sem, hN, Y.sip', Y.lm', Y.smx']
  refine awp_drawQ 6 mixed (by kernel_rfl) (by kernel_rfl) ?_
  simp -dsimp [go_sem, hN, Y.lm', Y.lo', Y.len, Y.loc, Y.so']
  exact ⟨_, .refl _, K (MS.q { s with puts := withS s.puts key, own := kSet s.own key x }), by simp [go_sem], by first | exact hwk.refl _ | exact hwk.app0 _ | simp [hwk.refl], by simp [Y.len], Y.und' _, by first | rfl | simp, by first | rfl | simp [MS.q]⟩
end Go.Proofs.YtcmbmfmpelnimaaGreatDoor

set_option maxRecDepth 4000
set_option maxHeartbeats 4000000
namespace Go.Proofs.YtcmbmfmpelnimaaGreatDoor
open Go Go.Abs Go.Cw
attribute [local go_sem] mC
variable {C : Cfg} {tT : TypeId} {tx : Nat × Nat} {g m v o io ir ip : Nat} {K : MQ → AHeap} {n0 : Nat}
theorem c_machine_unary (Y : MHs C tT tx g m v o io ir ip K n0) (hF : C.fmt = fmtI) (s : MS) (op : Int) (a : V) (ha : ascS s.reads) (hl : s.reads.length + 1 ≤ 68719476736) (hr : rngV a) :
    ACalls Tryz.prog 93 [.ptr m 0, I op, .agg a.c] (K s.q) fun r h' => r = endV (unS C op a s).1 ∧ h' = K (unS C op a s).2.q := by
  refine acalls_introB Tryz.func93 rfl (by kernel_rfl) (by simp [Tryz.ntmps93]) ?_
  intro E hN hh hu hb hb' hua
  rw [Tryz.ntmps93] at hN
  refine awp_of_wpC _ _ _ ?_
  simp -dsimp [go_sem, hN, Y.len]
  refine cnd (fun h0 => ?_) (fun h0 => ?_) <;> simp at h0
  · rw [unS, if_pos h0]
    simp -dsimp [go_sem, hN, Y.loc, Y.len]
    refine tcall (c_must (decide (a.k = 1)) _) ?_
    rintro r h' ⟨⟨hm, rfl⟩ | ⟨hm, rfl⟩, rfl⟩ <;> simp at hm
    · simp -dsimp [go_sem, hN, Y.loc, Y.len]
      refine tcall_pure (c_num_Neg a.n) ?_
      simp -dsimp [go_sem, hN, Y.loc, Y.len]
      refine tcall (c_interp_exact (numNeg a.n) _) ?_
      rintro r h' ⟨rfl, rfl⟩
      rw [if_pos hm]
      cases exactS (numNeg a.n) <;> simp -dsimp [go_sem, hN, endV, Y.loc1, Y.sloc1, Y.len] <;> exact ⟨_, .refl _, K s.q, by simp [go_sem], by first | exact hwk.refl _ | exact hwk.app0 _ | simp [hwk.refl], by simp [Y.len], Y.und' _, by first | rfl | simp, by first | rfl | simp [MS.q]⟩
    · simp -dsimp [go_sem, hN]
      rw [if_neg hm]
      exact ⟨_, .refl _, K s.q, by simp [go_sem], by first | exact hwk.refl _ | exact hwk.app0 _ | simp [hwk.refl], by simp [Y.len], Y.und' _, by first | rfl | simp, by first | rfl | simp [MS.q]⟩
  simp -dsimp [go_sem, hN, Y.len]
  rw [unS, if_neg h0]
  refine cnd (fun h1 => ?_) (fun h1 => ?_) <;> simp at h1
  · rw [if_pos h1]
    simp -dsimp [go_sem, hN, Y.loc, Y.len]
    refine tcall (c_must (decide (a.k = 3)) _) ?_
    rintro r h' ⟨⟨hm, rfl⟩ | ⟨hm, rfl⟩, rfl⟩ <;> simp at hm
    · simp -dsimp [go_sem, hN, Y.loc, Y.len]
      refine tcall_pure (c_interp_truth (decide (a.n = 0))) ?_
      simp -dsimp [go_sem, hN, Y.loc1, Y.sloc1, Y.len]
      rw [if_pos hm]
      exact ⟨_, .refl _, K s.q, by simp [go_sem], by first | exact hwk.refl _ | exact hwk.app0 _ | simp [hwk.refl], by simp [Y.len], Y.und' _, by first | rfl | simp, by first | rfl | simp [MS.q]⟩
    · simp -dsimp [go_sem, hN]
      rw [if_neg hm]
      exact ⟨_, .refl _, K s.q, by simp [go_sem], by first | exact hwk.refl _ | exact hwk.app0 _ | simp [hwk.refl], by simp [Y.len], Y.und' _, by first | rfl | simp, by first | rfl | simp [MS.q]⟩
  simp -dsimp [go_sem, hN, Y.len]
  rw [if_neg h1]
  refine cnd (fun h2 => ?_) (fun h2 => ?_) <;> simp at h2
  · rw [if_pos h2]
    simp -dsimp [go_sem, hN, Y.loc, Y.len]
    refine tcall (c_must (decide (a.k = 1)) _) ?_
    rintro r h' ⟨⟨hm, rfl⟩ | ⟨hm, rfl⟩, rfl⟩ <;> simp at hm
    · simp -dsimp [go_sem, hN, Y.loc, Y.len]
      refine tcall (c_num_Format a.n hr.1 _ g (Y.lg' _ _)) ?_
      rintro r h' ⟨rfl, rfl⟩
      simp -dsimp [go_sem, hN]
      refine tcall (c_interp_text _ _) ?_
      rintro r h' ⟨rfl, rfl⟩
      rw [if_pos hm, hF]
      cases textS (fmtI a.n) <;> simp -dsimp [go_sem, hN, endV, Y.loc1, Y.sloc1, Y.len] <;> exact ⟨_, .refl _, K s.q, by simp [go_sem], by first | exact hwk.refl _ | exact hwk.app0 _ | simp [hwk.refl], by simp [Y.len], Y.und' _, by first | rfl | simp, by first | rfl | simp [MS.q]⟩
    · simp -dsimp [go_sem, hN]
      rw [if_neg hm]
      exact ⟨_, .refl _, K s.q, by simp [go_sem], by first | exact hwk.refl _ | exact hwk.app0 _ | simp [hwk.refl], by simp [Y.len], Y.und' _, by first | rfl | simp, by first | rfl | simp [MS.q]⟩
  simp -dsimp [go_sem, hN, Y.len]
  rw [if_neg h2]
  refine cnd (fun h3 => ?_) (fun h3 => ?_) <;> simp at h3
  · rw [if_pos h3]
    simp -dsimp [go_sem, hN, Y.loc, Y.len]
    refine tcall (c_must (decide (a.k = 2)) _) ?_
    rintro r h' ⟨⟨hm, rfl⟩ | ⟨hm, rfl⟩, rfl⟩ <;> simp at hm
    · simp -dsimp [go_sem, hN, Y.loc, Y.len]
      refine tcall_pure (c_interp_integer (a.s.size : Int)) ?_
      simp -dsimp [go_sem, hN, Y.loc1, Y.sloc1, Y.len]
      rw [if_pos hm]
      exact ⟨_, .refl _, K s.q, by simp [go_sem], by first | exact hwk.refl _ | exact hwk.app0 _ | simp [hwk.refl], by simp [Y.len], Y.und' _, by first | rfl | simp, by first | rfl | simp [MS.q]⟩
    · simp -dsimp [go_sem, hN]
      rw [if_neg hm]
      exact ⟨_, .refl _, K s.q, by simp [go_sem], by first | exact hwk.refl _ | exact hwk.app0 _ | simp [hwk.refl], by simp [Y.len], Y.und' _, by first | rfl | simp, by first | rfl | simp [MS.q]⟩
  simp -dsimp [go_sem, hN, Y.loc, Y.len]
  rw [if_neg h3]
  refine tcall (c_must (decide (a.k = 2)) _) ?_
  rintro r h' ⟨⟨hm, rfl⟩ | ⟨hm, rfl⟩, rfl⟩ <;> simp at hm
  rotate_left
  · simp -dsimp [go_sem, hN]
    rw [if_neg hm]
    exact ⟨_, .refl _, K s.q, by simp [go_sem], by first | exact hwk.refl _ | exact hwk.app0 _ | simp [hwk.refl], by simp [Y.len], Y.und' _, by first | rfl | simp, by first | rfl | simp [MS.q]⟩
  rw [if_neg (by simpa using hm)]
  simp -dsimp [go_sem, hN, Y.loc, Y.len]
  refine tcall (c_machine_fetch (Y.ext [_, _] (by simp [hUnder, AObj.under, AV.under, underL])) s a.s ha hl) ?_
  rintro r h' ⟨rfl, rfl⟩
  rcases fetchS C a.s s with ⟨z | w, s'⟩
  · simp -dsimp [go_sem, hN, endV]
    exact ⟨_, .refl _, K s'.q, by simp [go_sem], by first | exact hwk.refl _ | exact hwk.app0 _ | simp [hwk.refl], by simp [Y.len], Y.und' _, by first | rfl | simp, by first | rfl | simp [MS.q]⟩
  simp -dsimp [go_sem, hN, endV, Y.loc, Y.loc1, Y.len]
  simp only [gotS]
  refine cnd (fun h4 => ?_) (fun h4 => ?_) <;> simp at h4
  · simp -dsimp [go_sem, hN, Y.loc2, Y.len]
    refine tcall_pure (c_interp_truth (!decide (w.k = 0))) ?_
    simp -dsimp [go_sem, hN, Y.loc1, Y.sloc1, Y.len]
    rw [if_pos h4]
    exact ⟨_, .refl _, K s'.q, by simp [go_sem], by first | exact hwk.refl _ | exact hwk.app0 _ | simp [hwk.refl], by simp [Y.len], Y.und' _, by first | rfl | simp, by first | rfl | simp [MS.q]⟩
  rw [if_neg h4]
  simp -dsimp [go_sem, hN, Y.loc2, Y.len]
  refine cnd (fun h5 => ?_) (fun h5 => ?_) <;> simp at h5
  · simp -dsimp [go_sem, hN]
    refine tcall_pure (c_interp_integer 0) ?_
    simp -dsimp [go_sem, hN, Y.loc1, Y.sloc1, Y.len]
    rw [if_pos h5]
    exact ⟨_, .refl _, K s'.q, by simp [go_sem], by first | exact hwk.refl _ | exact hwk.app0 _ | simp [hwk.refl], by simp [Y.len], Y.und' _, by first | rfl | simp, by first | rfl | simp [MS.q]⟩
  rw [if_neg (by rintro ⟨k1, k2⟩; exact h5 k1 k2)]
  simp -dsimp [go_sem, hN, Y.loc2, Y.len]
  refine cnd (fun h6 => ?_) (fun h6 => ?_) <;> simp at h6
  · simp -dsimp [go_sem, hN]
    refine tcall (c_interp_text em _) ?_
    rintro r h' ⟨rfl, rfl⟩
    rw [if_pos h6]
    cases textS em <;> simp -dsimp [go_sem, hN, endV, Y.loc1, Y.sloc1, Y.len] <;> exact ⟨_, .refl _, K s'.q, by simp [go_sem], by first | exact hwk.refl _ | exact hwk.app0 _ | simp [hwk.refl], by simp [Y.len], Y.und' _, by first | rfl | simp, by first | rfl | simp [MS.q]⟩
  rw [if_neg (by rintro ⟨k1, k2⟩; exact h6 k1 k2)]
  simp -dsimp [go_sem, hN, Y.loc2, Y.len]
  refine cnd (fun h7 => ?_) (fun h7 => ?_) <;> simp at h7
  · simp -dsimp [go_sem, hN]
    refine cnd (fun _ => ?_) (fun hx => by simp [h7] at hx)
    simp -dsimp [go_sem, hN]
    refine tcall (c_interp_abort 1003 _) ?_
    rintro r h' ⟨rfl, rfl⟩
    simp -dsimp [go_sem, hN]
    rw [if_pos (.inl h7)]
    exact ⟨_, .refl _, K s'.q, by simp [go_sem], by first | exact hwk.refl _ | exact hwk.app0 _ | simp [hwk.refl], by simp [Y.len], Y.und' _, by first | rfl | simp, by first | rfl | simp [MS.q]⟩
  simp -dsimp [go_sem, hN, Y.loc2, Y.len]
  refine cnd (fun h8 => ?_) (fun h8 => ?_) <;> simp at h8
  · simp -dsimp [go_sem, hN]
    refine tcall (c_interp_abort 1003 _) ?_
    rintro r h' ⟨rfl, rfl⟩
    simp -dsimp [go_sem, hN]
    rw [if_pos (.inr h8)]
    exact ⟨_, .refl _, K s'.q, by simp [go_sem], by first | exact hwk.refl _ | exact hwk.app0 _ | simp [hwk.refl], by simp [Y.len], Y.und' _, by first | rfl | simp, by first | rfl | simp [MS.q]⟩
  simp -dsimp [go_sem, hN, Y.loc2, Y.loc1, Y.sloc1, Y.len]
  rw [if_neg (fun k => k.elim (fun k => k.2 (h7 k.1)) (fun k => k.2 (h8 k.1)))]
  exact ⟨_, .refl _, K s'.q, by simp [go_sem], by first | exact hwk.refl _ | exact hwk.app0 _ | simp [hwk.refl], by simp [Y.len], Y.und' _, by first | rfl | simp, by first | rfl | simp [MS.q]⟩
end Go.Proofs.YtcmbmfmpelnimaaGreatDoor

set_option maxRecDepth 4000
set_option maxHeartbeats 4000000
namespace Go.Proofs.YtcmbmfmpelnimaaGreatDoor
open Go Go.Abs Go.Cw
attribute [local go_sem] mC
variable {C : Cfg} {tT : TypeId} {tx : Nat × Nat} {g m v o io ir ip : Nat}
theorem c_machine_eval (hF : C.fmt = fmtI) (hC : rngC C) {K : MQ → AHeap} {n0 : Nat} (Y : MHs C tT tx g m v o io ir ip K n0) (s : MS) (e : Ex) (hX : rngX e) (hM : rngM s) (ha : ascS s.reads) (hl : s.reads.length + nodes e ≤ 1000000000) :
    ACalls Tryz.prog 53 [.ptr m 0, .agg e.x] (K s.q) fun r h' => r = endV (evE C e s).1 ∧ h' = K (evE C e s).2.q := by
  refine acalls_introB Tryz.func53 rfl (by kernel_rfl) (by simp [Tryz.ntmps53]) ?_
  intro E hN hh hu hb hb' hua
  rw [Tryz.ntmps53] at hN
  refine awp_of_wpC _ _ _ ?_
  have hX' := (rngX_iff _).1 hX
  simp [go_sem] at hb
  rw [evE_eq]
  simp -dsimp [go_sem, hN, Y.len, Y.loc]
  refine cnd (fun h1 => ?_) (fun h1 => ?_) <;> simp at h1
  · simp -dsimp [go_sem, hN, Y.len, Y.loc]
    refine tcall_pure (c_interp_integer e.n) ?_
    simp -dsimp [go_sem, hN, Y.len, Y.loc1, Y.sloc1]
    rw [if_pos h1]
    exact ⟨_, .refl _, K s.q, by simp [go_sem], by first | exact hwk.refl _ | exact hwk.app0 _ | simp [hwk.refl], by simp [Y.len], Y.und' _, by first | rfl | simp, by first | rfl | simp [MS.q]⟩
  rw [if_neg h1]
  simp -dsimp [go_sem, hN, Y.len, Y.loc]
  refine cnd (fun h2 => ?_) (fun h2 => ?_) <;> simp at h2
  · simp -dsimp [go_sem, hN, Y.len, Y.loc, Y.loc1, Y.sloc1]
    rw [if_pos h2]
    exact ⟨_, .refl _, K s.q, by simp [go_sem], by first | exact hwk.refl _ | exact hwk.app0 _ | simp [hwk.refl], by simp [Y.len], Y.und' _, by first | rfl | simp, by first | rfl | simp [MS.q]⟩
  rw [if_neg h2]
  simp -dsimp [go_sem, hN, Y.len, Y.loc]
  refine cnd (fun h3 => ?_) (fun h3 => ?_) <;> simp at h3
  · rw [if_pos h3]
    simp -dsimp [go_sem, hN]
    refine awp_drawG 12 mixed (by kernel_rfl) ?_
    rcases hk : kGet s.vars e.s with _ | w
    · simp -dsimp [go_sem, hN, Y.len, Y.loc, Y.loc1, Y.loc2, Y.sloc1, Y.sloc2, Y.lm', Y.lv', hk]
      refine ⟨by have := Y.hm; simp [sepD, List.zipIdx]; exact .inl (by omega), ?_⟩
      refine tcall (c_must false _) ?_
      rintro r h' ⟨⟨hm, rfl⟩ | ⟨hm, rfl⟩, rfl⟩ <;> simp at hm
      simp -dsimp [go_sem, hN]
      exact ⟨_, .refl _, K s.q, by simp [go_sem], by first | exact hwk.refl _ | exact hwk.app0 _ | simp [hwk.refl], by simp [Y.len], Y.und' _, by first | rfl | simp, by first | rfl | simp [MS.q]⟩
    · simp -dsimp [go_sem, hN, Y.len, Y.loc, Y.loc1, Y.loc2, Y.sloc1, Y.sloc2, Y.lm', Y.lv', hk]
      refine ⟨by have := Y.hm; simp [sepD, List.zipIdx]; exact .inl (by omega), ?_⟩
      refine tcall (c_must true _) ?_
      rintro r h' ⟨⟨hm, rfl⟩ | ⟨hm, rfl⟩, rfl⟩ <;> simp at hm
      simp -dsimp [go_sem, hN, Y.len, Y.loc, Y.loc1, Y.loc2, Y.sloc1, Y.sloc2]
      exact ⟨_, .refl _, K s.q, by simp [go_sem], by first | exact hwk.refl _ | exact hwk.app0 _ | simp [hwk.refl], by simp [Y.len], Y.und' _, by first | rfl | simp, by first | rfl | simp [MS.q]⟩
  rw [if_neg h3]
  simp -dsimp [go_sem, hN, Y.len, Y.loc]
  have hn := nodes_eq e
  refine awp_loopA (α := List V × MS) e.args.length (fun n a => a.1.length = n ∧ (∀ v ∈ a.1, rngV v) ∧ rngM a.2 ∧ ascS a.2.reads ∧ a.2.reads.length + nodesL (e.args.drop n) + 1 ≤ 1000000000 ∧
      evL C e.args s = match evL C (e.args.drop n) a.2 with
        | (.error z, m') => (.error z, m')
        | (.ok r, m') => (.ok (a.1 ++ r), m'))
    (fun n a => ⟨[(0, .ptr m 0), (3, .ptr n0 0), (4, .ptr (n0 + 1) 0), (7, .own (n0 + 2) a.1.length), (38, .slice (e.args.map Ex.c)), (39, I e.args.length), (40, I n)], K a.2.q ++ [.cells e.x, .cells [I 0, I 0, S em], .arr 47 3 (a.1.map V.c)]⟩)
    ([], s) ⟨rfl, by simp, hM, ha, by simp; omega, ?_⟩ ((nil_wk E _ 7 47 3 (by simp [go_sem])).trans ?_) ?_
  · simp
    rcases evL C e.args s with ⟨z | r, m'⟩ <;> rfl
  · simp [Y.len]
    have := Y.hm
    exact (Wk.mk (by simp [hh, Y.len]) (by simp [go_sem]) (by simp [Y.und, Y.undA, Y.len, go_sem]) (by simp [go_sem, Y.len] <;> omega))
  rintro n ⟨acc, s'⟩ hn' ⟨hal, hav, hM', ha', hl', hI⟩
  dsimp only at hal hav hM' ha' hl' hI
  have hmn := Y.hm
  have hw := wrapS hn' hb.2.1
  simp -dsimp [go_sem, hN]
  refine cnd (fun hc => ?_) (fun hc => ?_) <;> simp at hc
  · rw [drop_next hc] at hI hl'
    rw [nodesL_cons] at hl'
    rw [evL] at hI
    have hlt : SizeOf.sizeOf e.args[n] < SizeOf.sizeOf e := Ex.arg_lt (List.getElem_mem hc)
    simp -dsimp [go_sem, hN, hc]
    refine tcall (c_machine_eval hF hC (Y.ext [_, _, _, _] (by simp [hUnder, AObj.under, AV.under, underL])) s' e.args[n] (hX'.2 _ (List.getElem_mem hc)) hM' ha' (by omega)) ?_
    rintro r h' ⟨rfl, rfl⟩
    have hok := evE_ok hC e.args[n] s' (hX'.2 _ (List.getElem_mem hc)) hM' ha'
    rcases hE : evE C e.args[n] s' with ⟨z | w, s2⟩
    · rw [hE] at hI
      simp only at hI
      simp -dsimp [go_sem, hN, endV]
      rw [hI]
      exact ⟨_, .refl _, K s2.q, by simp [go_sem], by first | exact hwk.refl _ | exact hwk.app0 _ | simp [hwk.refl], by simp [Y.len], Y.und' _, by first | rfl | simp, by first | rfl | simp [MS.q]⟩
    · rw [hE] at hI hok
      simp only at hI hok
      simp -dsimp [go_sem, hN, endV, Y.len, Y.loc, Y.loc1, Y.loc2, Y.loc3, Y.sloc2, hw]
      refine ⟨by omega, hc, acc ++ [w], s2, ⟨by simp [hal], ?_, hok.1.rng hM', hok.1.asc, by have := hok.1.len; omega, ?_⟩, (Wk.mk (by simp [hh, Y.len]) (by simp [go_sem]) (by simp [Y.und, Y.undA, Y.len, go_sem]) (by simp [go_sem, Y.len] <;> omega))⟩
      · intro v hv
        rcases List.mem_append.1 hv with hv | hv
        · exact hav v hv
        · simp at hv; subst hv; exact hok.2 _ rfl
      · rw [hI]
        rcases evL C (e.args.drop (n + 1)) s2 with ⟨z | r, m'⟩ <;> simp
  · rw [List.drop_eq_nil_of_le (by omega), evL] at hI
    simp only [List.append_nil] at hI
    rw [hI]
    have hln : acc.length = e.args.length := by omega
    simp -dsimp [go_sem, hN, Y.len, Y.loc2]
    refine cnd (fun h4 => ?_) (fun h4 => ?_) <;> simp at h4
    · obtain ⟨a, rfl⟩ : ∃ a, acc = [a] := by
        match acc, h4 with
        | [a], _ => exact ⟨a, rfl⟩
        | [], h4 => simp at h4
        | _ :: _ :: _, h4 => simp at h4; omega
      simp -dsimp [go_sem, hN]
      refine awp_drawQ 6 mixed (by kernel_rfl) (by kernel_rfl) ?_
      simp -dsimp [go_sem, hN, Y.len, Y.loc, Y.loc1, Y.loc2, Y.sloc1]
      trace_state
      refine tcall (c_machine_unary (Y.ext [_, _, _] (by simp [hUnder, AObj.under, AV.under, underL])) hF s' e.op a ha' (by omega) (hav a (by simp))) ?_
      rintro r h' ⟨rfl, rfl⟩
      simp only [opS]
      rcases unS C e.op a s' with ⟨z | w, s2⟩ <;> simp -dsimp [go_sem, hN, endV, Y.len, Y.loc, Y.loc1, Y.loc2, Y.sloc1] <;> exact ⟨_, .refl _, K s2.q, by simp [go_sem], by first | exact hwk.refl _ | exact hwk.app0 _ | simp [hwk.refl], by simp [Y.len], Y.und' _, by first | rfl | simp, by first | rfl | simp [MS.q]⟩
    simp -dsimp [go_sem, hN]
    refine cnd (fun h5 => ?_) (fun h5 => ?_) <;> simp at h5
    · obtain ⟨a, b, rfl⟩ : ∃ a b, acc = [a, b] := by
        match acc, h5 with
        | [a, b], _ => exact ⟨a, b, rfl⟩
        | [], h5 => simp at h5
        | [_], h5 => simp at h5
        | _ :: _ :: _ :: _, h5 => simp at h5; omega
      have hra := (hav a (by simp)).2
      have hrb := (hav b (by simp)).2
      simp -dsimp [go_sem, hN]
      refine awp_drawQ 8 mixed (by kernel_rfl) (by kernel_rfl) ?_
      simp -dsimp [go_sem, hN, Y.len, Y.loc, Y.loc1, Y.loc2, Y.sloc1]
      trace_state
      refine tcall (c_interp_binary e.op a b _ (by omega)) ?_
      rintro r h' ⟨rfl, rfl⟩
      simp only [opS]
      cases binS e.op a b <;> simp -dsimp [go_sem, hN, endV, Y.len, Y.loc, Y.loc1, Y.loc2, Y.sloc1] <;> exact ⟨_, .refl _, K s'.q, by simp [go_sem], by first | exact hwk.refl _ | exact hwk.app0 _ | simp [hwk.refl], by simp [Y.len], Y.und' _, by first | rfl | simp, by first | rfl | simp [MS.q]⟩
    simp -dsimp [go_sem, hN]
    refine tcall (c_interp_abort 1009 _) ?_
    rintro r h' ⟨rfl, rfl⟩
    simp -dsimp [go_sem, hN]
    have ho : opS C e.op acc s' = (.error (ab 1009), s') := by
      match acc, h4, h5 with
      | [], _, _ => rfl
      | [_], h4, _ => simp at h4
      | [_, _], _, h5 => simp at h5
      | _ :: _ :: _ :: _, _, _ => rfl
    rw [ho]
    exact ⟨_, .refl _, K s'.q, by simp [go_sem], by first | exact hwk.refl _ | exact hwk.app0 _ | simp [hwk.refl], by simp [Y.len], Y.und' _, by first | rfl | simp, by first | rfl | simp [MS.q]⟩
termination_by SizeOf.sizeOf e
end Go.Proofs.YtcmbmfmpelnimaaGreatDoor
