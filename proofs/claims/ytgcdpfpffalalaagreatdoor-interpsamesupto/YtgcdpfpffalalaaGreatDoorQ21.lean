/- Part 21 of a proof: W19, W20, W21, W2 -/
import Derived.Shelf.Strconv.Itoa4
import Derived.Lib.ItoaLen
import Derived.Test.YtgcdpfpffalalaaGreatDoorQ09
import Derived.Test.YtgcdpfpffalalaaGreatDoorQ12
import Derived.Test.YtgcdpfpffalalaaGreatDoorQ14
import Derived.Test.YtgcdpfpffalalaaGreatDoorQ18
import Derived.Test.YtgcdpfpffalalaaGreatDoorQ20
set_option linter.all false

set_option linter.unusedSimpArgs false
set_option linter.unusedVariables false
set_option maxRecDepth 4000
set_option maxHeartbeats 2000000
namespace Go.Proofs.YtgcdpfpffalalaaGreatDoor
open Go Go.Abs Go.Cw

def stopAV (z : Stop) : AV := .iface 74 (.agg [I z.status, I z.code, .slice [], S z.miss])
@[simp] theorem norm_stop (h : AHeap) (z : Stop) : (stopAV z).norm h = stopAV z := by simp [stopAV, AV.norm, normL]
@[simp] theorem under_stop (n : Nat) (z : Stop) : (stopAV z).under n = true := by simp [stopAV, AV.under, underL]
/-- how a call ends that gives a value or stops -/
def endV : EV → AEnd
  | .ok v => .ret (.agg v.c)
  | .error z => .panic (stopAV z)
def endU : Except Stop Unit → AEnd
  | .ok _ => .ret (.tuple [])
  | .error z => .panic (stopAV z)

theorem c_interp_abort (code : Int) (h : AHeap) : ACalls Tryz.prog 93 [I code] h fun r h' => r = .panic (stopAV (ab code)) ∧ h' = h := by
  refine acalls_introB Tryz.func93 rfl (by kernel_rfl) (by simp [Tryz.ntmps93]) ?_
  intro E hN hh hu hb hb' hua
  rw [Tryz.ntmps93] at hN
  refine awp_of_wpC _ _ _ ?_
  simp -dsimp [go_sem, hN]
  exact ⟨_, .refl _, h, by simp [go_sem], hwk.refl _, Nat.le_refl _, hu, rfl, rfl⟩
theorem c_interp_integer (n : Int) : APure Tryz.prog 89 [I n] (.agg (vI n).c) := by
  refine apure_introB Tryz.func89 rfl (by kernel_rfl) (by simp [Tryz.ntmps89]) rfl ?_
  intro E h hN hh hu hb
  rw [Tryz.ntmps89] at hN
  refine awp_of_wpC _ _ _ ?_
  simp -dsimp [go_sem, hN]
  exact ⟨rfl, rfl, rfl⟩
theorem c_interp_truth (b : Bool) : APure Tryz.prog 126 [Bo b] (.agg (vB b).c) := by
  refine apure_introB Tryz.func126 rfl (by kernel_rfl) (by simp [Tryz.ntmps126]) rfl ?_
  intro E h hN hh hu hb
  rw [Tryz.ntmps126] at hN
  refine awp_of_wpC _ _ _ ?_
  simp -dsimp [go_sem, hN]
  refine cnd (fun h0 => ?_) (fun h0 => ?_)
  · subst h0
    simp -dsimp [go_sem, hN]
    exact ⟨rfl, rfl, rfl⟩
  · subst h0
    simp -dsimp [go_sem, hN]
    exact ⟨rfl, rfl, rfl⟩
theorem c_interp_must (b : Bool) (h : AHeap) : ACalls Tryz.prog 90 [Bo b] h fun r h' => r = (if b then .ret (.tuple []) else .panic (stopAV (ab 1009))) ∧ h' = h := by
  refine acalls_introB Tryz.func90 rfl (by kernel_rfl) (by simp [Tryz.ntmps90]) ?_
  intro E hN hh hu hb hb' hua
  rw [Tryz.ntmps90] at hN
  refine awp_of_wpC _ _ _ ?_
  simp -dsimp [go_sem, hN]
  refine cnd (fun h0 => ?_) (fun h0 => ?_) <;> simp at h0 <;> subst h0
  · simp -dsimp [go_sem, hN]
    refine tcall (c_interp_abort 1009 h) ?_
    rintro r h' ⟨rfl, rfl⟩
    simp -dsimp [go_sem, hN]
    exact ⟨_, .refl _, _, by simp, hwk.refl _, Nat.le_refl _, hu, rfl, rfl⟩
  · simp -dsimp [go_sem, hN]
    exact ⟨_, .refl _, _, by simp [go_sem], hwk.refl _, Nat.le_refl _, hu, rfl, rfl⟩
theorem c_interp_restart (k : Bytes) (h : AHeap) : ACalls Tryz.prog 141 [S k] h fun r h' => r = .panic (stopAV (rst k)) ∧ h' = h := by
  refine acalls_introB Tryz.func141 rfl (by kernel_rfl) (by simp [Tryz.ntmps141]) ?_
  intro E hN hh hu hb hb' hua
  rw [Tryz.ntmps141] at hN
  refine awp_of_wpC _ _ _ ?_
  simp -dsimp [go_sem, hN]
  exact ⟨_, .refl _, h, by simp [go_sem], hwk.refl _, Nat.le_refl _, hu, rfl, rfl⟩
/-- the end of a walk that stops -/
theorem c_interp_text (s : Bytes) (h : AHeap) : ACalls Tryz.prog 127 [S s] h fun r h' => r = endV (textS s) ∧ h' = h := by
  refine acalls_introB Tryz.func127 rfl (by kernel_rfl) (by simp [Tryz.ntmps127]) ?_
  intro E hN hh hu hb hb' hua
  rw [Tryz.ntmps127] at hN
  refine awp_of_wpC _ _ _ ?_
  simp -dsimp [go_sem, hN]
  refine cnd (fun h0 => ?_) (fun h0 => ?_) <;> simp at h0
  · simp -dsimp [go_sem, hN]
    refine tcall (c_interp_abort 1006 _) ?_
    rintro r h' ⟨rfl, rfl⟩
    simp -dsimp [go_sem, hN]
    rw [textS, if_pos (by omega)]
    exact ⟨_, .refl _, _, by simp [go_sem], by simp [go_sem], by simp, by simp [hu, go_sem], rfl, rfl⟩
  · simp -dsimp [go_sem, hN]
    rw [textS, if_neg (by omega)]
    exact ⟨_, .refl _, h, by simp [go_sem], by simp [go_sem], by simp, by simp [hu, go_sem], rfl, rfl⟩
theorem c_interp_exact (r : Int × Int) (h : AHeap) : ACalls Tryz.prog 124 [I r.1, I r.2] h fun x h' => x = endV (exactS r) ∧ h' = h := by
  refine acalls_introB Tryz.func124 rfl (by kernel_rfl) (by simp [Tryz.ntmps124]) ?_
  intro E hN hh hu hb hb' hua
  rw [Tryz.ntmps124] at hN
  refine awp_of_wpC _ _ _ ?_
  simp -dsimp [go_sem, hN]
  refine cnd (fun h0 => ?_) (fun h0 => ?_) <;> simp at h0
  · simp -dsimp [go_sem, hN]
    refine tcall_pure (c_interp_integer r.1) ?_
    simp -dsimp [go_sem, hN]
    rw [exactS, if_pos h0]
    exact ⟨_, .refl _, h, by simp [go_sem], by simp [go_sem], by simp, by simp [hu, go_sem], rfl, rfl⟩
  simp -dsimp [go_sem, hN]
  refine cnd (fun h1 => ?_) (fun h1 => ?_) <;> simp at h1
  · simp -dsimp [go_sem, hN]
    refine tcall (c_interp_abort 1002 _) ?_
    rintro r' h' ⟨rfl, rfl⟩
    simp -dsimp [go_sem, hN]
    rw [exactS, if_neg h0, if_pos h1]
    exact ⟨_, .refl _, h, by simp [go_sem], by simp [go_sem], by simp, by simp [hu, go_sem], rfl, rfl⟩
  · simp -dsimp [go_sem, hN]
    refine tcall (c_interp_abort 1001 _) ?_
    rintro r' h' ⟨rfl, rfl⟩
    simp -dsimp [go_sem, hN]
    rw [exactS, if_neg h0, if_neg h1]
    exact ⟨_, .refl _, h, by simp [go_sem], by simp [go_sem], by simp, by simp [hu, go_sem], rfl, rfl⟩
/-- a walk that ends as a call has -/
theorem c_interp_arithmetic (op a b : Int) (h : AHeap) : ACalls Tryz.prog 130 [I op, I a, I b] h fun x h' => x = endV (arithS op a b) ∧ h' = h := by
  refine acalls_introB Tryz.func130 rfl (by kernel_rfl) (by simp [Tryz.ntmps130]) ?_
  intro E hN hh hu hb hb' hua
  rw [Tryz.ntmps130] at hN
  refine awp_of_wpC _ _ _ ?_
  simp -dsimp [go_sem, hN]
  refine cnd (fun h0 => ?_) (fun h0 => ?_) <;> simp at h0
  · simp -dsimp [go_sem, hN]
    refine tcall_pure (c_num_Add a b) ?_
    simp -dsimp [go_sem, hN]
    refine tcall (c_interp_exact (numAdd a b) _) ?_
    rintro r' h' ⟨rfl, rfl⟩
    rw [arithS,  if_pos h0]
    cases exactS (numAdd a b) <;> simp -dsimp [go_sem, hN, endV] <;> exact ⟨_, .refl _, h, by simp [go_sem], by simp [go_sem], by simp, by simp [hu, go_sem], rfl, rfl⟩
  simp -dsimp [go_sem, hN]
  refine cnd (fun h1 => ?_) (fun h1 => ?_) <;> simp at h1
  · simp -dsimp [go_sem, hN]
    refine tcall_pure (c_num_Sub a b) ?_
    simp -dsimp [go_sem, hN]
    refine tcall (c_interp_exact (numSub a b) _) ?_
    rintro r' h' ⟨rfl, rfl⟩
    rw [arithS, if_neg h0, if_pos h1]
    cases exactS (numSub a b) <;> simp -dsimp [go_sem, hN, endV] <;> exact ⟨_, .refl _, h, by simp [go_sem], by simp [go_sem], by simp, by simp [hu, go_sem], rfl, rfl⟩
  simp -dsimp [go_sem, hN]
  refine cnd (fun h2 => ?_) (fun h2 => ?_) <;> simp at h2
  · simp -dsimp [go_sem, hN]
    refine tcall_pure (c_num_Mul a b) ?_
    simp -dsimp [go_sem, hN]
    refine tcall (c_interp_exact (numMul a b) _) ?_
    rintro r' h' ⟨rfl, rfl⟩
    rw [arithS, if_neg h0, if_neg h1, if_pos h2]
    cases exactS (numMul a b) <;> simp -dsimp [go_sem, hN, endV] <;> exact ⟨_, .refl _, h, by simp [go_sem], by simp [go_sem], by simp, by simp [hu, go_sem], rfl, rfl⟩
  simp -dsimp [go_sem, hN]
  refine cnd (fun h3 => ?_) (fun h3 => ?_) <;> simp at h3
  · simp -dsimp [go_sem, hN]
    refine tcall_pure (c_num_Div a b) ?_
    simp -dsimp [go_sem, hN]
    refine tcall (c_interp_exact (numDiv a b) _) ?_
    rintro r' h' ⟨rfl, rfl⟩
    rw [arithS, if_neg h0, if_neg h1, if_neg h2, if_pos h3]
    cases exactS (numDiv a b) <;> simp -dsimp [go_sem, hN, endV] <;> exact ⟨_, .refl _, h, by simp [go_sem], by simp [go_sem], by simp, by simp [hu, go_sem], rfl, rfl⟩
  simp -dsimp [go_sem, hN]
  refine tcall_pure (c_num_Mod a b) ?_
  simp -dsimp [go_sem, hN]
  refine tcall (c_interp_exact (numMod a b) _) ?_
  rintro r' h' ⟨rfl, rfl⟩
  rw [arithS, if_neg h0, if_neg h1, if_neg h2, if_neg h3]
  cases exactS (numMod a b) <;> simp -dsimp [go_sem, hN, endV] <;> exact ⟨_, .refl _, h, by simp [go_sem], by simp [go_sem], by simp, by simp [hu, go_sem], rfl, rfl⟩

theorem c_must (b : Bool) (h : AHeap) : ACalls Tryz.prog 90 [Bo b] h fun r h' => ((b = true ∧ r = .ret (.tuple [])) ∨ (b = false ∧ r = .panic (stopAV (ab 1009)))) ∧ h' = h :=
  (c_interp_must b h).mono (by
    rintro r h' ⟨rfl, rfl⟩
    cases b
    · exact ⟨.inr ⟨rfl, rfl⟩, rfl⟩
    · exact ⟨.inl ⟨rfl, rfl⟩, rfl⟩)

theorem c_interp_compare (op : Int) (a b : V) (h : AHeap) : ACalls Tryz.prog 131 [I op, .agg a.c, .agg b.c] h fun x h' => x = endV (compS op a b) ∧ h' = h := by
  refine acalls_introB Tryz.func131 rfl (by kernel_rfl) (by simp [Tryz.ntmps131]) ?_
  intro E hN hh hu hb hb' hua
  rw [Tryz.ntmps131] at hN
  refine awp_of_wpC _ _ _ ?_
  simp -dsimp [go_sem, hN]
  repeat refine ⟨by grind, ?_⟩
  refine tcall (c_must _ _) ?_
  rintro r h' ⟨⟨hm, rfl⟩ | ⟨hm, rfl⟩, rfl⟩ <;> simp at hm
  rotate_left
  · simp -dsimp [go_sem, hN]
    rw [compS, if_neg (by grind)]
    exact ⟨_, .refl _, h, by simp [go_sem], by simp [go_sem], by simp, by simp [hu, go_sem], rfl, rfl⟩
  rw [compS, if_pos (by grind)]
  simp -dsimp [go_sem, hN]
  refine tcall_pure (c_value_Compare a b) ?_
  simp -dsimp [go_sem, hN]
  refine cnd (fun h0 => ?_) (fun h0 => ?_) <;> simp at h0
  · simp -dsimp [go_sem, hN]
    refine tcall_pure (c_interp_truth (decide (cmpV a b = 0))) ?_
    simp -dsimp [go_sem, hN]
    rw [cmpBy,  if_pos h0]
    exact ⟨_, .refl _, h, by simp [go_sem], by simp [go_sem], by simp, by simp [hu, go_sem], rfl, rfl⟩
  simp -dsimp [go_sem, hN]
  refine cnd (fun h1 => ?_) (fun h1 => ?_) <;> simp at h1
  · simp -dsimp [go_sem, hN]
    refine tcall_pure (c_interp_truth (!decide (cmpV a b = 0))) ?_
    simp -dsimp [go_sem, hN]
    rw [cmpBy, if_neg h0, if_pos h1]
    exact ⟨_, .refl _, h, by simp [go_sem], by simp [go_sem], by simp, by simp [hu, go_sem], rfl, rfl⟩
  simp -dsimp [go_sem, hN]
  refine cnd (fun h2 => ?_) (fun h2 => ?_) <;> simp at h2
  · simp -dsimp [go_sem, hN]
    refine tcall_pure (c_interp_truth (decide (cmpV a b < 0))) ?_
    simp -dsimp [go_sem, hN]
    rw [cmpBy, if_neg h0, if_neg h1, if_pos h2]
    exact ⟨_, .refl _, h, by simp [go_sem], by simp [go_sem], by simp, by simp [hu, go_sem], rfl, rfl⟩
  simp -dsimp [go_sem, hN]
  refine cnd (fun h3 => ?_) (fun h3 => ?_) <;> simp at h3
  · simp -dsimp [go_sem, hN]
    refine tcall_pure (c_interp_truth (decide (cmpV a b ≤ 0))) ?_
    simp -dsimp [go_sem, hN]
    rw [cmpBy, if_neg h0, if_neg h1, if_neg h2, if_pos h3]
    exact ⟨_, .refl _, h, by simp [go_sem], by simp [go_sem], by simp, by simp [hu, go_sem], rfl, rfl⟩
  simp -dsimp [go_sem, hN]
  refine cnd (fun h4 => ?_) (fun h4 => ?_) <;> simp at h4
  · simp -dsimp [go_sem, hN]
    refine tcall_pure (c_interp_truth (decide (0 < cmpV a b))) ?_
    simp -dsimp [go_sem, hN]
    rw [cmpBy, if_neg h0, if_neg h1, if_neg h2, if_neg h3, if_pos h4]
    exact ⟨_, .refl _, h, by simp [go_sem], by simp [go_sem], by simp, by simp [hu, go_sem], rfl, rfl⟩
  simp -dsimp [go_sem, hN]
  refine tcall_pure (c_interp_truth (decide (0 ≤ cmpV a b))) ?_
  simp -dsimp [go_sem, hN]
  rw [cmpBy, if_neg h0, if_neg h1, if_neg h2, if_neg h3, if_neg h4]
  exact ⟨_, .refl _, h, by simp [go_sem], by simp [go_sem], by simp, by simp [hu, go_sem], rfl, rfl⟩

theorem c_interp_binary (op : Int) (a b : V) (h : AHeap) (hS : a.s.size + b.s.size ≤ 68719476736) : ACalls Tryz.prog 92 [I op, .agg a.c, .agg b.c] h fun x h' => x = endV (binS op a b) ∧ h' = h := by
  refine acalls_introB Tryz.func92 rfl (by kernel_rfl) (by simp [Tryz.ntmps92]) ?_
  intro E hN hh hu hb hb' hua
  rw [Tryz.ntmps92] at hN
  refine awp_of_wpC _ _ _ ?_
  simp -dsimp [go_sem, hN]
  refine cnd (fun h0 => ?_) (fun h0 => ?_) <;> simp at h0
  · simp -dsimp [go_sem, hN, decide_eq_true h0]
    repeat refine ⟨by grind, ?_⟩
    refine tcall (c_must _ _) ?_
    rintro r h' ⟨⟨hm, rfl⟩ | ⟨hm, rfl⟩, rfl⟩ <;> simp at hm
    · simp -dsimp [go_sem, hN]
      refine tcall (c_interp_arithmetic op a.n b.n _) ?_
      rintro r' h' ⟨rfl, rfl⟩
      rw [binS, if_pos (by omega), if_pos (by grind)]
      cases arithS op a.n b.n <;> simp -dsimp [go_sem, hN, endV] <;> exact ⟨_, .refl _, h, by simp [go_sem], by simp [go_sem], by simp, by simp [hu, go_sem], rfl, rfl⟩
    · simp -dsimp [go_sem, hN]
      rw [binS, if_pos (by omega), if_neg (by grind)]
      exact ⟨_, .refl _, h, by simp [go_sem], by simp [go_sem], by simp, by simp [hu, go_sem], rfl, rfl⟩
  simp -dsimp [go_sem, hN]
  refine cnd (fun h1 => ?_) (fun h1 => ?_) <;> simp at h1
  · simp -dsimp [go_sem, hN, decide_eq_true h1]
    repeat refine ⟨by grind, ?_⟩
    refine tcall (c_must _ _) ?_
    rintro r h' ⟨⟨hm, rfl⟩ | ⟨hm, rfl⟩, rfl⟩ <;> simp at hm
    · simp -dsimp [go_sem, hN]
      refine tcall (c_interp_arithmetic op a.n b.n _) ?_
      rintro r' h' ⟨rfl, rfl⟩
      rw [binS, if_pos (by omega), if_pos (by grind)]
      cases arithS op a.n b.n <;> simp -dsimp [go_sem, hN, endV] <;> exact ⟨_, .refl _, h, by simp [go_sem], by simp [go_sem], by simp, by simp [hu, go_sem], rfl, rfl⟩
    · simp -dsimp [go_sem, hN]
      rw [binS, if_pos (by omega), if_neg (by grind)]
      exact ⟨_, .refl _, h, by simp [go_sem], by simp [go_sem], by simp, by simp [hu, go_sem], rfl, rfl⟩
  simp -dsimp [go_sem, hN]
  refine cnd (fun h2 => ?_) (fun h2 => ?_) <;> simp at h2
  · simp -dsimp [go_sem, hN, decide_eq_true h2]
    repeat refine ⟨by grind, ?_⟩
    refine tcall (c_must _ _) ?_
    rintro r h' ⟨⟨hm, rfl⟩ | ⟨hm, rfl⟩, rfl⟩ <;> simp at hm
    · simp -dsimp [go_sem, hN]
      refine tcall (c_interp_arithmetic op a.n b.n _) ?_
      rintro r' h' ⟨rfl, rfl⟩
      rw [binS, if_pos (by omega), if_pos (by grind)]
      cases arithS op a.n b.n <;> simp -dsimp [go_sem, hN, endV] <;> exact ⟨_, .refl _, h, by simp [go_sem], by simp [go_sem], by simp, by simp [hu, go_sem], rfl, rfl⟩
    · simp -dsimp [go_sem, hN]
      rw [binS, if_pos (by omega), if_neg (by grind)]
      exact ⟨_, .refl _, h, by simp [go_sem], by simp [go_sem], by simp, by simp [hu, go_sem], rfl, rfl⟩
  simp -dsimp [go_sem, hN]
  refine cnd (fun h3 => ?_) (fun h3 => ?_) <;> simp at h3
  · simp -dsimp [go_sem, hN, decide_eq_true h3]
    repeat refine ⟨by grind, ?_⟩
    refine tcall (c_must _ _) ?_
    rintro r h' ⟨⟨hm, rfl⟩ | ⟨hm, rfl⟩, rfl⟩ <;> simp at hm
    · simp -dsimp [go_sem, hN]
      refine tcall (c_interp_arithmetic op a.n b.n _) ?_
      rintro r' h' ⟨rfl, rfl⟩
      rw [binS, if_pos (by omega), if_pos (by grind)]
      cases arithS op a.n b.n <;> simp -dsimp [go_sem, hN, endV] <;> exact ⟨_, .refl _, h, by simp [go_sem], by simp [go_sem], by simp, by simp [hu, go_sem], rfl, rfl⟩
    · simp -dsimp [go_sem, hN]
      rw [binS, if_pos (by omega), if_neg (by grind)]
      exact ⟨_, .refl _, h, by simp [go_sem], by simp [go_sem], by simp, by simp [hu, go_sem], rfl, rfl⟩
  simp -dsimp [go_sem, hN]
  refine cnd (fun h4 => ?_) (fun h4 => ?_) <;> simp at h4
  · simp -dsimp [go_sem, hN]
    repeat refine ⟨by grind, ?_⟩
    refine tcall (c_must _ _) ?_
    rintro r h' ⟨⟨hm, rfl⟩ | ⟨hm, rfl⟩, rfl⟩ <;> simp at hm
    · simp -dsimp [go_sem, hN]
      refine tcall (c_interp_arithmetic op a.n b.n _) ?_
      rintro r' h' ⟨rfl, rfl⟩
      rw [binS, if_pos (by omega), if_pos (by grind)]
      cases arithS op a.n b.n <;> simp -dsimp [go_sem, hN, endV] <;> exact ⟨_, .refl _, h, by simp [go_sem], by simp [go_sem], by simp, by simp [hu, go_sem], rfl, rfl⟩
    · simp -dsimp [go_sem, hN]
      rw [binS, if_pos (by omega), if_neg (by grind)]
      exact ⟨_, .refl _, h, by simp [go_sem], by simp [go_sem], by simp, by simp [hu, go_sem], rfl, rfl⟩
  simp -dsimp [go_sem, hN]
  refine cnd (fun h5 => ?_) (fun h5 => ?_) <;> simp at h5
  · simp -dsimp [go_sem, hN]
    repeat refine ⟨by grind, ?_⟩
    refine tcall (c_must _ _) ?_
    rintro r h' ⟨⟨hm, rfl⟩ | ⟨hm, rfl⟩, rfl⟩ <;> simp at hm
    rotate_left
    · simp -dsimp [go_sem, hN]
      rw [binS, if_neg (by omega), if_pos h5, if_neg (by grind)]
      exact ⟨_, .refl _, h, by simp [go_sem], by simp [go_sem], by simp, by simp [hu, go_sem], rfl, rfl⟩
    rw [binS, if_neg (by omega), if_pos h5, if_pos (by grind)]
    simp -dsimp [go_sem, hN]
    repeat refine ⟨by grind, ?_⟩
    refine tcall_pure (c_interp_truth (decide (a.n = 1) && decide (b.n = 1))) ?_
    simp -dsimp [go_sem, hN]
    exact ⟨_, .refl _, h, by simp [go_sem], by simp [go_sem], by simp, by simp [hu, go_sem], rfl, rfl⟩
  simp -dsimp [go_sem, hN]
  refine cnd (fun h6 => ?_) (fun h6 => ?_) <;> simp at h6
  · simp -dsimp [go_sem, hN]
    repeat refine ⟨by grind, ?_⟩
    refine tcall (c_must _ _) ?_
    rintro r h' ⟨⟨hm, rfl⟩ | ⟨hm, rfl⟩, rfl⟩ <;> simp at hm
    rotate_left
    · simp -dsimp [go_sem, hN]
      rw [binS, if_neg (by omega), if_neg h5, if_pos h6, if_neg (by grind)]
      exact ⟨_, .refl _, h, by simp [go_sem], by simp [go_sem], by simp, by simp [hu, go_sem], rfl, rfl⟩
    rw [binS, if_neg (by omega), if_neg h5, if_pos h6, if_pos (by grind)]
    simp -dsimp [go_sem, hN]
    repeat refine ⟨by grind, ?_⟩
    refine tcall_pure (c_interp_truth (decide (a.n = 1) || decide (b.n = 1))) ?_
    simp -dsimp [go_sem, hN]
    exact ⟨_, .refl _, h, by simp [go_sem], by simp [go_sem], by simp, by simp [hu, go_sem], rfl, rfl⟩
  simp -dsimp [go_sem, hN]
  refine cnd (fun h7 => ?_) (fun h7 => ?_) <;> simp at h7
  · simp -dsimp [go_sem, hN]
    repeat refine ⟨by grind, ?_⟩
    refine tcall (c_must _ _) ?_
    rintro r h' ⟨⟨hm, rfl⟩ | ⟨hm, rfl⟩, rfl⟩ <;> simp at hm
    rotate_left
    · simp -dsimp [go_sem, hN]
      rw [binS, if_neg (by omega), if_neg h5, if_neg h6, if_pos h7, if_neg (by grind)]
      exact ⟨_, .refl _, h, by simp [go_sem], by simp [go_sem], by simp, by simp [hu, go_sem], rfl, rfl⟩
    rw [binS, if_neg (by omega), if_neg h5, if_neg h6, if_pos h7, if_pos (by grind)]
    simp -dsimp [go_sem, hN]
    refine ⟨hS, ?_⟩
    refine tcall (c_interp_text (a.s ++ b.s) _) ?_
    rintro r' h' ⟨rfl, rfl⟩
    cases textS (a.s ++ b.s) <;> simp -dsimp [go_sem, hN, endV] <;> exact ⟨_, .refl _, h, by simp [go_sem], by simp [go_sem], by simp, by simp [hu, go_sem], rfl, rfl⟩
  simp -dsimp [go_sem, hN]
  refine tcall (c_interp_compare op a b _) ?_
  rintro r' h' ⟨rfl, rfl⟩
  rw [binS, if_neg (by omega), if_neg h5, if_neg h6, if_neg h7]
  cases compS op a b <;> simp -dsimp [go_sem, hN, endV] <;> exact ⟨_, .refl _, h, by simp [go_sem], by simp [go_sem], by simp, by simp [hu, go_sem], rfl, rfl⟩
end Go.Proofs.YtgcdpfpffalalaaGreatDoor

set_option linter.unusedSimpArgs false
set_option linter.unusedVariables false
set_option maxRecDepth 4000
namespace Go.Proofs.YtgcdpfpffalalaaGreatDoor
open Go Go.Abs Go.Cw Go.Shelf

def renF : Ren := ⟨fun
  | 129 => 250 | 173 => 173 | 246 => 212 | 283 => 234 | 284 => 235 | 285 => 236 | 286 => 237
  | 317 => 249 | 318 => 251 | 319 => 252 | 320 => 253 | 337 => 259 | 338 => 260 | x => x,
  fun | 0 => 0 | 2 => 2 | 3 => 3 | 4 => 4 | 5 => 5 | 9 => 9 | 20 => 20 | 37 => 226 | 46 => 227 | 51 => 247 | 53 => 165 | 171 => 234 | 173 => 237 | 212 => 246 | 213 => 248 | 232 => 253 | 233 => 254 | x => x,
  fun | 17 => 0 | 18 => 2 | 19 => 3 | x => x⟩
theorem laysF0 : Lays.n173 Tryz.prog renF := by
  constructor <;> first | exact fun _ => by kernel_rfl | kernel_rfl
theorem laysF : LaysM.n173 Tryz.prog renF := { laysF0 with i0 := by kernel_rfl, i2 := by kernel_rfl, i3 := by kernel_rfl, i4 := by kernel_rfl, i5 := by kernel_rfl, i9 := by kernel_rfl, i20 := by kernel_rfl, i37 := by kernel_rfl, i46 := by kernel_rfl, i51 := by kernel_rfl, i53 := by kernel_rfl, i171 := by kernel_rfl, i173 := by kernel_rfl, i212 := by kernel_rfl, i232 := by kernel_rfl, i233 := by kernel_rfl, m17 := by kernel_rfl, m18 := by kernel_rfl, m19 := by kernel_rfl }

def tabV : Array Value := (Lib.pow10Tab.map fun z => Value.int .u64 z).toArray
/-- the table of the powers of ten, as an object -/
def tabO (T : TypeId) (x : Nat × Nat) : AObj := .raw 0 (fun _ => .cells tabV T x) []
def fmtI (n : Int) : Bytes := ⟨(Lib.itoa n).toArray⟩
theorem hsim_grow {c : Ctx} {h : AHeap} {w : World} (hs : HSim c h w) (k : Nat) (os : Array Obj) : HSim c h (Sort.grow (w.drewN k) os) ∧ (⟨0, c, h, w⟩ : Ent).ok c h (Sort.grow (w.drewN k) os) := by
  have hw : ∀ b, b < w.heap.size → (Sort.grow (w.drewN k) os).heap[b]? = w.heap[b]? := fun b hb => by
    show (w.heap ++ os)[b]? = _
    rw [Array.getElem?_append_left hb]
  refine ⟨hs.ext hw (.refl c) (fun _ _ => rfl) (fun _ _ _ h => .inl h) hs.dom, ?_⟩
  exact (Ent.ok.refl 0 hs).ext' hs hw (.refl c) (fun _ => rfl) rfl rfl rfl (by show _ ≤ (w.heap ++ os).size; simp) (fun _ _ _ h => .inl h)

theorem c_FormatInt (n : Int) (hn : i64 n) (h : AHeap) (g : Nat) {T : TypeId} {x : Nat × Nat} (hg : h[g]? = some (tabO T x)) (hsz : (fmtI n).size ≤ 68719476736) :
    ACalls Tryz.prog 173 [I n, I 10] h fun r h' => r = .ret (S (fmtI n)) ∧ h' = h := by
  refine ⟨⟨_, laysF.f173, rfl, rfl⟩, fun c w vs hs ha => ?_⟩
  obtain ⟨hb, us, hv, _⟩ := hs.obj _ _ hg
  have htab : Lib.TabIs Tryz.prog w "internal/strconv.uint64pow10" .u64 Lib.pow10Tab := by
    unfold Lib.TabIs World.var?
    rw [laysF.m17]
    simp only [Option.bind_some]
    show (match w.heap[0]? with | some (.cells cs _ _) => some cs | _ => none) = _
    rw [hv]
    rfl
  have he : vs = #[.int .i64 n, .int .i64 10] := relL_vals (l := [.int .i64 n, .int .i64 10]) ha
  rw [he]
  refine (Any.strconv_FormatInt_10 laysF n hn.1 hn.2 w htab).mono ?_
  rintro e w' ⟨rfl, k, os, rfl⟩
  obtain ⟨g1, g2⟩ := hsim_grow hs k os
  exact ⟨_, h, c, ⟨rfl, rfl⟩, .val _ (by simpa [strOk] using hsz), g1, g2⟩

theorem c_num_Format (n : Int) (hn : i64 n) (h : AHeap) (g : Nat) {T : TypeId} {x : Nat × Nat} (hg : h[g]? = some (tabO T x)) :
    ACalls Tryz.prog 128 [I n] h fun r h' => r = .ret (S (fmtI n)) ∧ h' = h := by
  have hsz : (fmtI n).size ≤ 68719476736 := by
    have := Lib.itoa_length_le n hn.1 hn.2
    show (Lib.itoa n).length ≤ _
    omega
  refine acalls_introB Tryz.func128 rfl (by kernel_rfl) (by simp [Tryz.ntmps128]) ?_
  intro E hN hh hu hb hb' hua
  rw [Tryz.ntmps128] at hN
  refine awp_of_wpC _ _ _ ?_
  simp -dsimp [go_sem, hN]
  refine tcall (c_FormatInt n hn h g hg hsz) ?_
  rintro r h' ⟨rfl, rfl⟩
  simp -dsimp [go_sem, hN]
  exact ⟨_, .refl _, _, rfl, hwk.refl _, Nat.le_refl _, hu, rfl, rfl⟩
end Go.Proofs.YtgcdpfpffalalaaGreatDoor

set_option linter.unusedSimpArgs false
set_option linter.unusedVariables false
set_option maxRecDepth 4000
namespace Go.Proofs.YtgcdpfpffalalaaGreatDoor
open Go Go.Abs Go.Cw Go.Shelf Go.Lib

def renI : Ren := ⟨fun | 17 => 258 | 22 => 193 | 29 => 224 | 30 => 225 | 36 => 243 | x => x, fun | 0 => 0 | 3 => 3 | 4 => 4 | 9 => 9 | 24 => 27 | x => x, fun x => x⟩
theorem laysI : Lays2.n22 Tryz.prog renI := by
  constructor <;> first | exact fun _ => by kernel_rfl | kernel_rfl
theorem c_cmpNaN_str (s : Bytes) : APure Tryz.prog 242 [S s] (Bo false) := by
  refine apure_introB Tryz.func242 rfl (by kernel_rfl) (by simp [Tryz.ntmps242]) rfl ?_
  intro E h hN hh hu hb
  rw [Tryz.ntmps242] at hN
  refine awp_of_wpC _ _ _ ?_
  simp -dsimp [go_sem, hN]
theorem c_isNaN_str (s : Bytes) : APure Tryz.prog 223 [S s] (Bo false) := by
  refine apure_introB Tryz.func223 rfl (by kernel_rfl) (by simp [Tryz.ntmps223]) rfl ?_
  intro E h hN hh hu hb
  rw [Tryz.ntmps223] at hN
  refine awp_of_wpC _ _ _ ?_
  simp -dsimp [go_sem, hN]
theorem c_less_str (a b : Bytes) : APure Tryz.prog 222 [S a, S b] (Bo (sLt a b)) := by
  refine apure_introB Tryz.func222 rfl (by kernel_rfl) (by simp [Tryz.ntmps222]) rfl ?_
  intro E h hN hh hu hb
  rw [Tryz.ntmps222] at hN
  refine awp_of_wpC _ _ _ ?_
  simp -dsimp [go_sem, hN]
  refine tcall_pure (c_cmpNaN_str a) ?_
  simp -dsimp [go_sem, hN]
  refine tgcall_false ?_
  simp -dsimp [go_sem, hN]
theorem c_BinarySearch (l : List Bytes) (k : Bytes) (hs : ascS l) : APure Tryz.prog 192 [.slice (l.map sRow), S k] (.tuple [I (posS k l), Bo (decide (l[posS k l]? = some k))]) := by
  refine apure_introB Tryz.func192 rfl (by kernel_rfl) (by simp [Tryz.ntmps192]) rfl ?_
  intro E h hN hh hu hb
  rw [Tryz.ntmps192] at hN
  refine awp_of_wpC _ _ _ ?_
  simp [go_sem] at hb
  have hp := posS_le k l
  simp -dsimp [go_sem, hN]
  refine awp_loopM (α := Nat × Nat) (fun x => x.1 ≤ posS k l ∧ posS k l ≤ x.2 ∧ x.2 ≤ l.length) (fun x => ⟨[(0, .slice (l.map sRow)), (1, S k), (6, I l.length), (7, I x.1), (8, I x.2)], h⟩) (fun x => x.2 - x.1) (0, l.length) ⟨by simp, hp, by simp⟩ (Wk.mk (by simp [hh]) (by simp [go_sem]) (by simp [hu, hUnder_ext hu, go_sem]) (by simp [go_sem])) ?_
  rintro ⟨i, j⟩ ⟨h1, h2, h3⟩
  simp only at h1 h2 h3
  simp -dsimp [go_sem, hN]
  refine cnd (fun hc => ?_) (fun hc => ?_) <;> simp at hc
  · have hm : IntKind.i64.wrap ((IntKind.u64.wrap (IntKind.i64.wrap ((i : Int) + j))).fdiv 2) = (((i + j) / 2 : Nat) : Int) := by
      have h0 := hb.1.1
      have e0 : IntKind.i64.wrap ((i : Int) + j) = (i : Int) + j := wrapI (by omega) (by omega)
      rw [e0]
      have : IntKind.u64.wrap ((i : Int) + j) = (i : Int) + j := by
        simp only [IntKind.wrap, IntKind.bits, IntKind.signed]
        simp
        omega
      rw [this]
      have e1 : ((i : Int) + j).fdiv 2 = (((i + j) / 2 : Nat) : Int) := by
        rw [Int.fdiv_eq_ediv_of_nonneg _ (by omega)]
        omega
      rw [e1, wrapI (by omega) (by omega)]
    have hlt : (i + j) / 2 < l.length := by omega
    have hi' := posS_lt (k := k) hs ((i + j) / 2) hlt
    generalize hq : (i + j) / 2 = q at hm hlt hi'
    have hw : IntKind.i64.wrap ((q : Int) + 1) = ((q + 1 : Nat) : Int) := by have h0 := hb.1.1; rw [wrapI (by omega) (by omega)]; omega
    simp -dsimp [go_sem, hN, hm, hlt, sRow]
    refine tcall_pure (c_less_str l[q] k) ?_
    simp -dsimp [go_sem, hN]
    refine cnd (fun hc2 => ?_) (fun hc2 => ?_)
    · simp -dsimp [go_sem, hN, hw]
      exact ⟨q + 1, j, ⟨by have := hi'.2 hc2; omega, h2, h3⟩, by omega, (Wk.mk (by simp [hh]) (by simp [go_sem]) (by simp [hu, hUnder_ext hu, go_sem]) (by simp [go_sem]))⟩
    · simp -dsimp [go_sem, hN]
      refine ⟨i, q, ⟨h1, ?_, by omega⟩, by omega, (Wk.mk (by simp [hh]) (by simp [go_sem]) (by simp [hu, hUnder_ext hu, go_sem]) (by simp [go_sem]))⟩
      rcases Nat.lt_or_ge q (posS k l) with h5 | h5
      · have := hi'.1 h5; rw [this] at hc2; cases hc2
      · exact h5
  · have hi : i = posS k l := by omega
    subst hi
    by_cases hlt : posS k l < l.length
    · simp -dsimp [go_sem, hN, hlt, sRow]
      repeat refine ⟨by grind, ?_⟩
      refine tgcall_pure (c_isNaN_str _) (by simp) ?_
      simp -dsimp [go_sem, hN]
      refine tgcall_false ?_
      simp -dsimp [go_sem, hN]
      rw [List.getElem?_eq_getElem hlt]
      simp
    · have hd : decide (posS k l < l.length) = false := by simpa using hlt
      have hnone : l[posS k l]? = none := List.getElem?_eq_none (by omega)
      simp -dsimp [go_sem, hN, hd, hnone]
      refine tgcall_false ?_
      simp -dsimp [go_sem, hN]
      refine tgcall_false ?_
      simp -dsimp [go_sem, hN]
      rw [hnone]; simp
theorem c_with (h : AHeap) (i : Nat) (l : List Bytes) (hi : h[i]? = some (.uarr 9 1 (l.map sRow))) (hlen : l.length + 1 ≤ 68719476736) (key : Bytes) (ha : ascS l) :
    ACalls Tryz.prog 142 [.own i l.length, S key] h fun r h' => r = .ret (.own i (withS l key).length) ∧ h' = h.set i (.uarr 9 1 ((withS l key).map sRow)) := by
  refine acalls_intro Tryz.func142 rfl (by kernel_rfl) (by simp [Tryz.ntmps142]) ?_
  intro E hN hh hu
  rw [Tryz.ntmps142] at hN
  have hil : i < h.length := (List.getElem?_eq_some_iff.1 hi).1
  have hn : (l.map sRow).length = l.length := by simp
  have hB := c_BinarySearch l key ha
  refine awp_seq (awp_ops ?_)
  simp [go_sem, hN]
  refine awp_seq (awp_opsB [_, _] ?_)
  simp [go_sem, hN, borStep, borV, hi, hn]
  refine ⟨_, hB, by simp [flatB], ?_⟩
  simp [go_sem, hN]
  refine awp_seq (awp_seq (awp_ops ?_))
  simp [go_sem, hN]
  have hle := posS_le key l
  rcases hc : decide (l[posS key l]? = some key) with _ | _
  · have hw : withS l key = l.take (posS key l) ++ key :: l.drop (posS key l) := by rw [withS, if_neg (by simpa using hc)]
    refine awp_cond (b := false) (by simpa [go_sem] using hc) (fun h => by cases h) (fun _ => ?_)
    refine awp_skip ?_
    simp
    refine awp_seq (awp_opsT [_, _, _] _ ?_)
    simp [go_sem, hN]
    intro c a w s k
    refine wp_insert laysI s k (T := 27) (x := .tmp 17) (xa := .tmp 15) (xb := .tmp 16) (f := .func 193) (d1 := 18) rfl rfl rfl (by omega) (by simp [dstOk, hN]) rfl rfl (by simp [renI]) (by simp [renI]) (by simp [renI]) (by simp [go_sem]) (key := key) (by simp [go_sem]) (i := i) (n := l.length) (by simp [go_sem]) (pos := posS key l) (by simp [go_sem]) (by simp) (by simp) rfl hi hn hle hlen
      ⟨_, Tryz.func193, by kernel_rfl, by kernel_rfl⟩ fun c' a' w' s' k' => ?_
    refine opsF_sound _ [_, _, _, _, _] _ rfl ?_ c' a' w' s' k'
    simp [go_sem, hN]
    have hl' : (withS l key).length = l.length + 1 := by rw [hw]; simp; omega
    refine awp_ret ⟨⟨trivial, trivial⟩, .own i (l.length + 1), _, ?_, ?_, hwk.refl _, ?_, ?_, by rw [hl'], by rw [hw]; simp [List.map_take, List.map_drop, sRow, renI]⟩
    · simp [go_sem, hil]
    · simp [AV.under, hil]
    · simp
    · rw [hUnder_iff] at hu ⊢
      intro o ho
      simp only [List.length_set]
      rcases List.mem_or_eq_of_mem_set ho with ho | rfl
      · exact hu o ho
      · rfl
  · have hw : withS l key = l := by rw [withS, if_pos (by simpa using hc)]
    refine awp_cond (b := true) (by simpa [go_sem] using hc) (fun _ => ?_) (fun h => by cases h)
    refine awp_seq (awp_ops ?_)
    simp [go_sem, hN]
    rw [hw, set_same hi]
    refine awp_ret ⟨⟨trivial, trivial⟩, .own i l.length, h, by simp [go_sem, hi], by simp [AV.under, hil], hwk.refl _, Nat.le_refl _, hu, rfl, rfl⟩
end Go.Proofs.YtgcdpfpffalalaaGreatDoor

set_option linter.unusedSimpArgs false
set_option linter.unusedVariables false
set_option maxRecDepth 4000
namespace Go.Proofs.YtgcdpfpffalalaaGreatDoor
open Go Go.Abs Go.Cw

theorem c_ref05_Plain (s : Bytes) : APure Tryz.prog 86 [S s] (Bo (plainS s)) := by
  refine apure_introB Tryz.func86 rfl (by kernel_rfl) (by simp [Tryz.ntmps86]) rfl ?_
  intro E h hN hh hu hb
  rw [Tryz.ntmps86] at hN
  refine awp_of_wpC _ _ _ ?_
  simp [go_sem] at hb
  simp -dsimp [go_sem, hN]
  refine cnd (fun h0 => ?_) (fun h0 => ?_) <;> simp at h0
  · simp -dsimp [go_sem, hN]
    simp [plainS, Int.not_le.2 h0]
  simp -dsimp [go_sem, hN]
  refine awp_loopN s.size (fun n => allL okB ((bl s).drop n) = allL okB (bl s)) (fun n => ⟨[(0, S s), (3, I n)], h⟩) (by simp) (Wk.mk (by simp [hh]) (by simp [go_sem]) (by simp [hu, hUnder_ext hu, go_sem]) (by simp [go_sem])) ?_
  intro n hn hI
  have hw := wrapS hn hb
  simp -dsimp [go_sem, hN]
  refine cnd (fun hc => ?_) (fun hc => ?_) <;> simp at hc
  · rw [bdrop hc, allL] at hI
    simp -dsimp [go_sem, hN, hc]
    refine cnd (fun hg => ?_) (fun hg => ?_)
    · simp -dsimp [go_sem, hN]
      simp [plainS, ← hI, okB, hg]
    · simp -dsimp [go_sem, hN, hw]
      exact ⟨hc, by simpa [okB, hg] using hI, (Wk.mk (by simp [hh]) (by simp [go_sem]) (by simp [hu, hUnder_ext hu, go_sem]) (by simp [go_sem]))⟩
  · rw [bend (by omega), allL] at hI
    simp -dsimp [go_sem, hN, plainS, ← hI, h0]

theorem c_ref04_Valid (s : Bytes) : APure Tryz.prog 82 [S s] (Bo (keyOk s)) := by
  refine apure_introB Tryz.func82 rfl (by kernel_rfl) (by simp [Tryz.ntmps82]) rfl ?_
  intro E h hN hh hu hb
  rw [Tryz.ntmps82] at hN
  refine awp_of_wpC _ _ _ ?_
  simp [go_sem] at hb
  simp -dsimp [go_sem, hN]
  refine awp_loopN s.size (fun n => allL keyB ((bl s).drop n) = allL keyB (bl s)) (fun n => ⟨[(0, S s), (3, I n)], h⟩) (by simp) (Wk.mk (by simp [hh]) (by simp [go_sem]) (by simp [hu, hUnder_ext hu, go_sem]) (by simp [go_sem])) ?_
  intro n hn hI
  have hw := wrapS hn hb
  simp -dsimp [go_sem, hN]
  refine cnd (fun hc => ?_) (fun hc => ?_) <;> simp at hc
  · rw [bdrop hc, allL] at hI
    simp -dsimp [go_sem, hN, hc]
    refine ⟨by omega, cnd (fun hg => ?_) (fun hg => ?_)⟩
    · simp -dsimp [go_sem, hN]
      have : keyB (bAt s n) = false := by
        simp [keyB] at hg ⊢
        omega
      simp [keyOk, ← hI, this]
    · simp -dsimp [go_sem, hN, hw]
      have : keyB (bAt s n) = true := by
        simp [keyB] at hg ⊢
        omega
      exact ⟨hc, by simpa [this] using hI, (Wk.mk (by simp [hh]) (by simp [go_sem]) (by simp [hu, hUnder_ext hu, go_sem]) (by simp [go_sem]))⟩
  · rw [bend (by omega), allL] at hI
    have e1 : s = em ∨ 1 ≤ (s.size : Int) := sz_em s
    rcases e1 with rfl | e1
    · simp -dsimp [go_sem, hN, keyOk]
    · have e2 : ¬ s = em := by rintro rfl; simp at e1
      simp -dsimp [go_sem, hN, keyOk, ← hI, e1, e2]

theorem c_ref05_Valid (k n : Int) (s : Bytes) : APure Tryz.prog 55 [.agg [I k, I n, S s]] (Bo (valOk k n s)) := by
  refine apure_introB Tryz.func55 rfl (by kernel_rfl) (by simp [Tryz.ntmps55]) rfl ?_
  intro E h hN hh hu hb
  rw [Tryz.ntmps55] at hN
  refine awp_of_wpC _ _ _ ?_
  simp -dsimp [go_sem, hN]
  refine cnd (fun h0 => ?_) (fun h0 => ?_) <;> simp at h0 <;> simp -dsimp [go_sem, hN, valOk, h0]
  refine cnd (fun h1 => ?_) (fun h1 => ?_) <;> simp at h1 <;> simp -dsimp [go_sem, hN, valOk, h0, h1]
  refine tgcall_pure (c_ref05_Plain s) (by simp) ?_
  by_cases h2 : k = 2 <;> simp -dsimp [go_sem, hN, valOk, h0, h1, h2]

theorem c_ref06_ascending (l : List Pr) : APure Tryz.prog 56 [.slice (l.map Pr.c)] (Bo (ascP none l)) := by
  refine apure_introB Tryz.func56 rfl (by kernel_rfl) (by simp [Tryz.ntmps56]) rfl ?_
  intro E h hN hh hu hb
  rw [Tryz.ntmps56] at hN
  refine awp_of_wpC _ _ _ ?_
  simp [go_sem] at hb
  simp -dsimp [go_sem, hN]
  refine awp_loopN l.length (fun n => ascP ((prevOf l n).map Pr.key) (l.drop n) = ascP none l) (fun n => ⟨[(0, .slice (l.map Pr.c)), (3, I n)], h⟩) (by simp [prevOf]) (Wk.mk (by simp [hh]) (by simp [go_sem]) (by simp [hu, hUnder_ext hu, go_sem]) (by simp [go_sem])) ?_
  intro n hn hI
  have hw := wrapS hn hb.1
  simp -dsimp [go_sem, hN]
  refine cnd (fun hc => ?_) (fun hc => ?_) <;> simp at hc
  · rw [drop_next hc, ascP] at hI
    simp -dsimp [go_sem, hN, hc]
    refine awp_drawQ 22 mixed (by kernel_rfl) (by kernel_rfl) ?_
    simp -dsimp [go_sem, hN, hc]
    refine tdcall (c_ref04_Valid _) (by simp) ?_
    cases n with
    | zero =>
      simp -dsimp [go_sem, hN]
      refine cnd (fun hg => ?_) (fun hg => ?_) <;> try simp at hg
      · simp -dsimp [go_sem, hN]
        grind [prevOf, after]
      · simp -dsimp [go_sem, hN, hw]
        exact ⟨hc, by simpa [hg, prevOf, hc, after] using hI, (Wk.mk (by simp [hh]) (by simp [go_sem]) (by simp [hu, hUnder_ext hu, go_sem]) (by simp [go_sem]))⟩
    | succ m =>
      have hm : m < l.length := by omega
      have hw2 := wrapN (Nat.le_of_lt hm) hb.1
      simp at hw
      simp -dsimp [go_sem, hN, hw2, hm, hc]
      refine ⟨fun hk => ⟨hk, by omega⟩, cnd (fun hg => ?_) (fun hg => ?_)⟩ <;> rw [sLe_not] at hg <;> simp at hg
      · simp -dsimp [go_sem, hN]
        rw [← hI]
        rcases hg with h1 | h1 <;> simp [prevOf, hm, after, h1]
      · simp -dsimp [go_sem, hN, hw]
        simp [hg, prevOf, hm, after] at hI
        exact ⟨hc, by simpa [prevOf, hc] using hI, (Wk.mk (by simp [hh]) (by simp [go_sem]) (by simp [hu, hUnder_ext hu, go_sem]) (by simp [go_sem]))⟩
  · rw [List.drop_eq_nil_of_le (by omega), ascP] at hI
    simp -dsimp [go_sem, hN, ← hI]

theorem c_ref06_ValidWrites (l : List Pr) : APure Tryz.prog 25 [.slice (l.map Pr.c)] (Bo (writesOk l)) := by
  refine apure_introB Tryz.func25 rfl (by kernel_rfl) (by simp [Tryz.ntmps25]) rfl ?_
  intro E h hN hh hu hb
  rw [Tryz.ntmps25] at hN
  refine awp_of_wpC _ _ _ ?_
  simp [go_sem] at hb
  simp -dsimp [go_sem, hN]
  refine awp_loopN l.length (fun n => valsOk (l.drop n) = valsOk l) (fun n => ⟨[(0, .slice (l.map Pr.c)), (3, I n)], h⟩) (by simp) (Wk.mk (by simp [hh]) (by simp [go_sem]) (by simp [hu, hUnder_ext hu, go_sem]) (by simp [go_sem])) ?_
  intro n hn hI
  have hw := wrapS hn hb.1
  simp -dsimp [go_sem, hN]
  refine cnd (fun hc => ?_) (fun hc => ?_) <;> simp at hc
  · rw [drop_next hc, valsOk, allL] at hI
    simp -dsimp [go_sem, hN, hc]
    refine tcall_pure (c_ref05_Valid _ _ _) ?_
    simp -dsimp [go_sem, hN]
    refine cnd (fun hg => ?_) (fun hg => ?_) <;> simp at hg
    · simp -dsimp [go_sem, hN]
      simp [writesOk, ← hI, hg]
    · simp -dsimp [go_sem, hN, hw]
      exact ⟨hc, by simpa [hg, valsOk] using hI, (Wk.mk (by simp [hh]) (by simp [go_sem]) (by simp [hu, hUnder_ext hu, go_sem]) (by simp [go_sem]))⟩
  · rw [List.drop_eq_nil_of_le (by omega), valsOk, allL] at hI
    simp -dsimp [go_sem, hN]
    refine tcall_pure (c_ref06_ascending l) ?_
    simp -dsimp [go_sem, hN, writesOk, ← hI]

theorem c_ref06_Valid (l : List Pr) : APure Tryz.prog 10 [.slice (l.map Pr.c)] (Bo (stateOk l)) := by
  rw [← stateOkR_eq]
  refine apure_introB Tryz.func10 rfl (by kernel_rfl) (by simp [Tryz.ntmps10]) rfl ?_
  intro E h hN hh hu hb
  rw [Tryz.ntmps10] at hN
  refine awp_of_wpC _ _ _ ?_
  simp [go_sem] at hb
  simp -dsimp [go_sem, hN]
  refine awp_loopN l.length (fun n => anyL (fun p => decide (p.v.k = 0)) (l.drop n) = anyL (fun p => decide (p.v.k = 0)) l) (fun n => ⟨[(0, .slice (l.map Pr.c)), (3, I n)], h⟩) (by simp) (Wk.mk (by simp [hh]) (by simp [go_sem]) (by simp [hu, hUnder_ext hu, go_sem]) (by simp [go_sem])) ?_
  intro n hn hI
  have hw := wrapS hn hb.1
  simp -dsimp [go_sem, hN]
  refine cnd (fun hc => ?_) (fun hc => ?_) <;> simp at hc
  · rw [drop_next hc, anyL] at hI
    simp -dsimp [go_sem, hN, hc]
    refine cnd (fun hg => ?_) (fun hg => ?_) <;> simp at hg
    · simp -dsimp [go_sem, hN]
      simp [stateOkR, ← hI, hg]
    · simp -dsimp [go_sem, hN, hw]
      exact ⟨hc, by simpa [hg] using hI, (Wk.mk (by simp [hh]) (by simp [go_sem]) (by simp [hu, hUnder_ext hu, go_sem]) (by simp [go_sem]))⟩
  · rw [List.drop_eq_nil_of_le (by omega), anyL] at hI
    simp -dsimp [go_sem, hN]
    refine tcall_pure (c_ref06_ValidWrites l) ?_
    simp -dsimp [go_sem, hN, stateOkR, ← hI]

theorem c_ref06_Has (l : List Pr) (k : Bytes) : APure Tryz.prog 39 [.slice (l.map Pr.c), S k] (Bo (hasP l k)) := by
  refine apure_introB Tryz.func39 rfl (by kernel_rfl) (by simp [Tryz.ntmps39]) rfl ?_
  intro E h hN hh hu hb
  rw [Tryz.ntmps39] at hN
  refine awp_of_wpC _ _ _ ?_
  simp [go_sem] at hb
  simp -dsimp [go_sem, hN]
  refine awp_loopN l.length (fun n => hasP (l.drop n) k = hasP l k) (fun n => ⟨[(0, .slice (l.map Pr.c)), (1, S k), (5, I n)], h⟩) (by simp) (Wk.mk (by simp [hh]) (by simp [go_sem]) (by simp [hu, hUnder_ext hu, go_sem]) (by simp [go_sem])) ?_
  intro n hn hI
  have hw := wrapS hn hb.1.1
  simp -dsimp [go_sem, hN]
  refine cnd (fun hc => ?_) (fun hc => ?_) <;> simp at hc
  · rw [drop_next hc, hasP, anyL] at hI
    simp -dsimp [go_sem, hN, hc]
    refine cnd (fun hg => ?_) (fun hg => ?_) <;> simp at hg
    · simp -dsimp [go_sem, hN]
      simp [← hI, hg]
    · simp -dsimp [go_sem, hN, hw]
      exact ⟨hc, by simpa [hg, hasP] using hI, (Wk.mk (by simp [hh]) (by simp [go_sem]) (by simp [hu, hUnder_ext hu, go_sem]) (by simp [go_sem]))⟩
  · rw [List.drop_eq_nil_of_le (by omega), hasP, anyL] at hI
    simp -dsimp [go_sem, hN, ← hI]

theorem c_ref06_Get (l : List Pr) (k : Bytes) : APure Tryz.prog 12 [.slice (l.map Pr.c), S k] (.agg (getP l k).c) := by
  refine apure_introB Tryz.func12 rfl (by kernel_rfl) (by simp [Tryz.ntmps12]) rfl ?_
  intro E h hN hh hu hb
  rw [Tryz.ntmps12] at hN
  refine awp_of_wpC _ _ _ ?_
  simp [go_sem] at hb
  simp -dsimp [go_sem, hN]
  refine awp_loopN l.length (fun n => getP (l.drop n) k = getP l k) (fun n => ⟨[(0, .slice (l.map Pr.c)), (1, S k), (4, P0 h.length), (5, I n)], h ++ [.cells [I 0, I 0, S em]]⟩) (by simp) (Wk.mk (by simp [hh]) (by simp [go_sem]) (by simp [hu, hUnder_ext hu, go_sem]) (by simp [go_sem])) ?_
  intro n hn hI
  have hw := wrapS hn hb.1.1
  simp -dsimp [go_sem, hN]
  refine cnd (fun hc => ?_) (fun hc => ?_) <;> simp at hc
  · rw [drop_next hc, getP] at hI
    simp -dsimp [go_sem, hN, hc]
    refine cnd (fun hg => ?_) (fun hg => ?_) <;> simp at hg
    · simp -dsimp [go_sem, hN, hc]
      simp [← hI, hg]
    · simp -dsimp [go_sem, hN, hw]
      exact ⟨hc, by simpa [hg] using hI, (Wk.mk (by simp [hh]) (by simp [go_sem]) (by simp [hu, hUnder_ext hu, go_sem]) (by simp [go_sem]))⟩
  · rw [List.drop_eq_nil_of_le (by omega), getP] at hI
    simp -dsimp [go_sem, hN, ← hI]

theorem c_ref06_with (l : List Pr) (p : Pr) (hB : l.length < 68719476736) : APure Tryz.prog 40 [.slice (l.map Pr.c), .agg p.c] (.slice ((withP l p).map Pr.c)) := by
  refine apure_introB Tryz.func40 rfl (by kernel_rfl) (by simp [Tryz.ntmps40]) rfl ?_
  intro E h hN hh hu hb
  rw [Tryz.ntmps40] at hN
  refine awp_of_wpC _ _ _ ?_
  simp [go_sem] at hb
  simp -dsimp [go_sem, hN]
  refine awp_loopN l.length (fun n => n + posP p.key (l.drop n) = posP p.key l) (fun n => ⟨[(0, .slice (l.map Pr.c)), (3, P0 h.length), (5, I n)], h ++ [.cells p.c]⟩) (by simp) (Wk.mk (by simp [hh]) (by simp [go_sem]) (by simp [hu, hUnder_ext hu, go_sem]) (by simp [go_sem])) ?_
  intro n hn hI
  have hw := wrapS hn (Nat.le_of_lt hB)
  simp -dsimp [go_sem, hN]
  refine awp_drawQ 12 mixed (by kernel_rfl) (by kernel_rfl) ?_
  by_cases hc : n < l.length
  · rw [drop_next hc, posP] at hI
    simp -dsimp [go_sem, hN, hc]
    refine cnd (fun hg => ?_) (fun hg => ?_) <;> try simp at hg
    · simp -dsimp [go_sem, hN, hw]
      rw [if_pos hg] at hI
      exact ⟨hc, by omega, (Wk.mk (by simp [hh]) (by simp [go_sem]) (by simp [hu, hUnder_ext hu, go_sem]) (by simp [go_sem]))⟩
    · rw [if_neg (by simp [hg])] at hI
      simp -dsimp [go_sem, hN]
      refine ⟨by omega, by omega, by omega, by omega, by omega, ?_⟩
      rw [if_pos (by omega)]
      simp [withP, ← hI, Pr.c, List.map_take, List.map_drop]
  · rw [List.drop_eq_nil_of_le (by omega), posP] at hI
    simp -dsimp [go_sem, hN, hc]
    refine ⟨by omega, by omega, by omega, by omega, by omega, ?_⟩
    rw [if_pos (by omega)]
    simp [withP, ← hI, Pr.c, List.map_take, List.map_drop]

theorem c_ref06_Apply (l w : List Pr) (hB : l.length + w.length < 68719476736) : APure Tryz.prog 13 [.slice (l.map Pr.c), .slice (w.map Pr.c)]
    (if stateOk l && writesOk w then .tuple [.slice ((applyP l w).map Pr.c), I 0] else .tuple [.slice [], I 1]) := by
  refine apure_introB Tryz.func13 rfl (by kernel_rfl) (by simp [Tryz.ntmps13]) (by split <;> rfl) ?_
  intro E h hN hh hu hb
  rw [Tryz.ntmps13] at hN
  refine awp_of_wpC _ _ _ ?_
  simp [go_sem] at hb
  simp -dsimp [go_sem, hN]
  refine tcall_pure (c_ref06_Valid l) ?_
  simp -dsimp [go_sem, hN]
  refine tgcall_pure (c_ref06_ValidWrites w) (by simp) ?_
  simp -dsimp [go_sem, hN]
  refine cnd (fun h0 => ?_) (fun h0 => ?_) <;> simp at h0
  · simp -dsimp [go_sem, hN]
    grind
  rw [h0.1, h0.2]
  simp -dsimp [go_sem, hN]
  refine awp_loopA (α := List Pr) l.length (fun n o => o ++ keepP w (l.drop n) = keepP w l ∧ o.length ≤ n) (fun n o => ⟨[(0, .slice (l.map Pr.c)), (1, .slice (w.map Pr.c)), (6, .own h.length o.length), (7, I n)], h ++ [.arr 44 4 (o.map Pr.c)]⟩) [] (by simp) ((nil_wk E _ 6 44 4 rfl).trans (Wk.mk (by simp [hh]) (by simp [go_sem]) (by simp [hu, hUnder_ext hu, go_sem]) (by simp [go_sem]))) ?_
  intro n o hn ⟨hI, hol⟩
  have hw := wrapS hn hb.1.1
  simp -dsimp [go_sem, hN]
  refine cnd (fun hc => ?_) (fun hc => ?_) <;> simp at hc
  · rw [drop_next hc, keepP] at hI
    simp -dsimp [go_sem, hN, hc]
    refine tcall_pure (c_ref06_Has w _) ?_
    simp -dsimp [go_sem, hN]
    refine cnd (fun hg => ?_) (fun hg => ?_) <;> simp at hg
    · simp -dsimp [go_sem, hN, hc]
      refine ⟨by omega, ?_⟩
      simp -dsimp [go_sem, hN, hw]
      exact ⟨o ++ [l[n]], ⟨by simpa [hg] using hI, by simp; omega⟩, (Wk.mk (by simp [hh]) (by simp [go_sem]) (by simp [hu, hUnder_ext hu, go_sem]) (by simp [go_sem]))⟩
    · simp -dsimp [go_sem, hN, hw]
      exact ⟨hc, o, ⟨by simpa [hg] using hI, by omega⟩, (Wk.mk (by simp [hh]) (by simp [go_sem]) (by simp [hu, hUnder_ext hu, go_sem]) (by simp [go_sem]))⟩
  rw [List.drop_eq_nil_of_le (by omega), keepP, List.append_nil] at hI
  simp -dsimp [go_sem, hN]
  subst hI
  refine awp_loopA (α := List Pr) w.length (fun n o => addP o (w.drop n) = applyP l w ∧ o.length ≤ l.length + n) (fun n o => ⟨[(1, .slice (w.map Pr.c)), (6, .slice (o.map Pr.c)), (8, I n)], h⟩) (keepP w l) (by simp [applyP]; omega) ((norm_wk E _).trans (Wk.mk (by simp [hh]) (by simp [go_sem]) (by simp [hu, hUnder_ext hu, go_sem]) (by simp [go_sem]))) ?_
  intro n o hn ⟨hI, hol⟩
  have hw := wrapS hn hb.2.1
  simp -dsimp [go_sem, hN]
  refine cnd (fun hc => ?_) (fun hc => ?_) <;> simp at hc
  · rw [drop_next hc, addP] at hI
    simp -dsimp [go_sem, hN, hc]
    refine cnd (fun hg => ?_) (fun hg => ?_) <;> simp at hg
    · simp -dsimp [go_sem, hN, hc]
      refine tcall_pure (c_ref06_with o _ (by omega)) ?_
      simp -dsimp [go_sem, hN, hw]
      exact ⟨hc, withP o w[n], ⟨by simpa [hg] using hI, by rw [withP_len]; omega⟩, (Wk.mk (by simp [hh]) (by simp [go_sem]) (by simp [hu, hUnder_ext hu, go_sem]) (by simp [go_sem]))⟩
    · simp -dsimp [go_sem, hN, hw]
      exact ⟨hc, o, ⟨by simpa [hg] using hI, by omega⟩, (Wk.mk (by simp [hh]) (by simp [go_sem]) (by simp [hu, hUnder_ext hu, go_sem]) (by simp [go_sem]))⟩
  · rw [List.drop_eq_nil_of_le (by omega), addP] at hI
    simp -dsimp [go_sem, hN, hI]
end Go.Proofs.YtgcdpfpffalalaaGreatDoor
