/- Part 21 of a proof: W11, W12, W13, W19, W20, W40 -/
import Derived.Shelf.Small.Strs
import Derived.Shelf.Strconv.Itoa4
import Derived.Lib.ItoaLen
import Derived.Test.YtcmbmfmpelnimaaGreatDoorQ09
import Derived.Test.YtcmbmfmpelnimaaGreatDoorQ10
import Derived.Test.YtcmbmfmpelnimaaGreatDoorQ12
import Derived.Test.YtcmbmfmpelnimaaGreatDoorQ13
import Derived.Test.YtcmbmfmpelnimaaGreatDoorQ17
import Derived.Test.YtcmbmfmpelnimaaGreatDoorQ19
import Derived.Test.YtcmbmfmpelnimaaGreatDoorQ20
set_option linter.all false

set_option maxRecDepth 4000
namespace Go.Proofs.YtcmbmfmpelnimaaGreatDoor
open Go Go.Abs Go.Cw
theorem c_num_Neg (a : Int) : APure Tryz.prog 139 [I a] (.tuple [I (numNeg a).1, I (numNeg a).2]) := by
  refine apure_introB Tryz.func139 rfl (by kernel_rfl) (by simp [Tryz.ntmps139]) rfl ?_
  intro E h hN hh hu hb
  rw [Tryz.ntmps139] at hN
  refine awp_of_wpC _ _ _ ?_
  simp -dsimp [go_sem, hN]
  refine cnd (fun h0 => ?_) (fun h0 => ?_) <;> simp at h0 <;> simp -dsimp [go_sem, hN, numNeg, h0]
theorem c_num_Add (a b : Int) : APure Tryz.prog 193 [I a, I b] (.tuple [I (numAdd a b).1, I (numAdd a b).2]) := by
  refine apure_introB Tryz.func193 rfl (by kernel_rfl) (by simp [Tryz.ntmps193]) rfl ?_
  intro E h hN hh hu hb
  rw [Tryz.ntmps193] at hN
  refine awp_of_wpC _ _ _ ?_
  simp -dsimp [go_sem, hN]
  repeat refine ⟨by grind, ?_⟩
  refine cnd (fun h0 => ?_) (fun h0 => ?_) <;> simp at h0 <;> simp -dsimp [go_sem, hN] <;> grind [numAdd]
theorem c_num_Sub (a b : Int) : APure Tryz.prog 194 [I a, I b] (.tuple [I (numSub a b).1, I (numSub a b).2]) := by
  refine apure_introB Tryz.func194 rfl (by kernel_rfl) (by simp [Tryz.ntmps194]) rfl ?_
  intro E h hN hh hu hb
  rw [Tryz.ntmps194] at hN
  refine awp_of_wpC _ _ _ ?_
  simp -dsimp [go_sem, hN]
  repeat refine ⟨by grind, ?_⟩
  refine cnd (fun h0 => ?_) (fun h0 => ?_) <;> simp at h0 <;> simp -dsimp [go_sem, hN] <;> grind [numSub]
theorem c_num_Mul (a b : Int) : APure Tryz.prog 195 [I a, I b] (.tuple [I (numMul a b).1, I (numMul a b).2]) := by
  refine apure_introB Tryz.func195 rfl (by kernel_rfl) (by simp [Tryz.ntmps195]) rfl ?_
  intro E h hN hh hu hb
  rw [Tryz.ntmps195] at hN
  refine awp_of_wpC _ _ _ ?_
  simp -dsimp [go_sem, hN]
  repeat refine ⟨by grind, ?_⟩
  refine cnd (fun h0 => ?_) (fun h0 => ?_) <;> simp at h0 <;> simp -dsimp [go_sem, hN]
  · grind [numMul]
  refine cnd (fun h1 => ?_) (fun h1 => ?_) <;> simp at h1 <;> simp -dsimp [go_sem, hN]
  · refine tcall_pure (c_num_Neg b) ?_
    simp -dsimp [go_sem, hN]
    grind [numMul]
  refine cnd (fun h2 => ?_) (fun h2 => ?_) <;> simp at h2 <;> simp -dsimp [go_sem, hN]
  · refine tcall_pure (c_num_Neg a) ?_
    simp -dsimp [go_sem, hN]
    grind [numMul]
  repeat refine ⟨by grind, ?_⟩
  refine cnd (fun h3 => ?_) (fun h3 => ?_) <;> simp at h3 <;> simp -dsimp [go_sem, hN] <;> grind [numMul]
theorem c_num_Div (a b : Int) : APure Tryz.prog 196 [I a, I b] (.tuple [I (numDiv a b).1, I (numDiv a b).2]) := by
  refine apure_introB Tryz.func196 rfl (by kernel_rfl) (by simp [Tryz.ntmps196]) rfl ?_
  intro E h hN hh hu hb
  rw [Tryz.ntmps196] at hN
  refine awp_of_wpC _ _ _ ?_
  simp -dsimp [go_sem, hN]
  refine cnd (fun h0 => ?_) (fun h0 => ?_) <;> simp at h0 <;> simp -dsimp [go_sem, hN]
  · grind [numDiv]
  refine cnd (fun h1 => ?_) (fun h1 => ?_) <;> simp at h1 <;> simp -dsimp [go_sem, hN]
  · refine tcall_pure (c_num_Neg a) ?_
    simp -dsimp [go_sem, hN]
    grind [numDiv]
  repeat refine ⟨by grind, ?_⟩
  refine cnd (fun h3 => ?_) (fun h3 => ?_) <;> simp at h3 <;> simp -dsimp [go_sem, hN] <;> grind [numDiv]
theorem c_num_Mod (a b : Int) : APure Tryz.prog 197 [I a, I b] (.tuple [I (numMod a b).1, I (numMod a b).2]) := by
  refine apure_introB Tryz.func197 rfl (by kernel_rfl) (by simp [Tryz.ntmps197]) rfl ?_
  intro E h hN hh hu hb
  rw [Tryz.ntmps197] at hN
  refine awp_of_wpC _ _ _ ?_
  simp -dsimp [go_sem, hN]
  refine cnd (fun h0 => ?_) (fun h0 => ?_) <;> simp at h0 <;> simp -dsimp [go_sem, hN]
  · grind [numMod]
  refine cnd (fun h1 => ?_) (fun h1 => ?_) <;> simp at h1 <;> simp -dsimp [go_sem, hN]
  · grind [numMod]
  repeat refine ⟨by grind, ?_⟩
  refine cnd (fun h3 => ?_) (fun h3 => ?_) <;> simp at h3 <;> simp -dsimp [go_sem, hN] <;> grind [numMod]
theorem c_cmp_isNaN (a : Int) : APure Tryz.prog 263 [I a] (Bo false) := by
  refine apure_introB Tryz.func263 rfl (by kernel_rfl) (by simp [Tryz.ntmps263]) rfl ?_
  intro E h hN hh hu hb
  rw [Tryz.ntmps263] at hN
  refine awp_of_wpC _ _ _ ?_
  simp -dsimp [go_sem, hN]
theorem c_cmp_isNaN64 (a : Int) : APure Tryz.prog 279 [I a] (Bo false) := by
  refine apure_introB Tryz.func279 rfl (by kernel_rfl) (by simp [Tryz.ntmps279]) rfl ?_
  intro E h hN hh hu hb
  rw [Tryz.ntmps279] at hN
  refine awp_of_wpC _ _ _ ?_
  simp -dsimp [go_sem, hN]
theorem c_cmp_Compare (a b : Int) : APure Tryz.prog 237 [I a, I b] (I (cmpI a b)) := by
  refine apure_introB Tryz.func237 rfl (by kernel_rfl) (by simp [Tryz.ntmps237]) rfl ?_
  intro E h hN hh hu hb
  rw [Tryz.ntmps237] at hN
  refine awp_of_wpC _ _ _ ?_
  simp -dsimp [go_sem, hN]
  refine tcall_pure (c_cmp_isNaN a) ?_
  simp -dsimp [go_sem, hN]
  refine tcall_pure (c_cmp_isNaN b) ?_
  simp -dsimp [go_sem, hN]
  refine cnd (fun h0 => ?_) (fun h0 => ?_) <;> simp at h0 <;> simp -dsimp [go_sem, hN]
  · grind [cmpI]
  refine cnd (fun h1 => ?_) (fun h1 => ?_) <;> simp at h1 <;> simp -dsimp [go_sem, hN] <;> grind [cmpI]
theorem c_cmp_Compare64 (a b : Int) : APure Tryz.prog 264 [I a, I b] (I (cmpI a b)) := by
  refine apure_introB Tryz.func264 rfl (by kernel_rfl) (by simp [Tryz.ntmps264]) rfl ?_
  intro E h hN hh hu hb
  rw [Tryz.ntmps264] at hN
  refine awp_of_wpC _ _ _ ?_
  simp -dsimp [go_sem, hN]
  refine tcall_pure (c_cmp_isNaN64 a) ?_
  simp -dsimp [go_sem, hN]
  refine tcall_pure (c_cmp_isNaN64 b) ?_
  simp -dsimp [go_sem, hN]
  refine cnd (fun h0 => ?_) (fun h0 => ?_) <;> simp at h0 <;> simp -dsimp [go_sem, hN]
  · grind [cmpI]
  refine cnd (fun h1 => ?_) (fun h1 => ?_) <;> simp at h1 <;> simp -dsimp [go_sem, hN] <;> grind [cmpI]
theorem c_pair_numbers (u v : V) : APure Tryz.prog 238 [.agg [I u.k, I u.n, S u.s, I v.k, I v.n, S v.s]] (I (cmpI u.n v.n)) := by
  refine apure_introB Tryz.func238 rfl (by kernel_rfl) (by simp [Tryz.ntmps238]) rfl ?_
  intro E h hN hh hu hb
  rw [Tryz.ntmps238] at hN
  refine awp_of_wpC _ _ _ ?_
  simp -dsimp [go_sem, hN]
  refine tcall_pure (c_cmp_Compare64 u.n v.n) ?_
  simp -dsimp [go_sem, hN]
end Go.Proofs.YtcmbmfmpelnimaaGreatDoor

set_option maxRecDepth 4000
namespace Go.Proofs.YtcmbmfmpelnimaaGreatDoor
open Go Go.Abs Go.Cw Go.Shelf
def renC : Ren := ⟨fun | 106 => 152 | 213 => 207 | 265 => 245 | x => x, fun | 3 => 3 | 9 => 9 | x => x, fun x => x⟩
theorem laysC : Lays.n106 Tryz.prog renC where
  mixed := by kernel_rfl
  f106 := by kernel_rfl
  f213 := by kernel_rfl
  f265 := by kernel_rfl
  t3 := by kernel_rfl
  a3 := fun _ => by kernel_rfl
  z3 := fun _ => by kernel_rfl
  v3 := fun _ => by kernel_rfl
  t9 := by kernel_rfl
  a9 := fun _ => by kernel_rfl
  z9 := fun _ => by kernel_rfl
  v9 := fun _ => by kernel_rfl
theorem c_strings_Compare (a b : Bytes) : APure Tryz.prog 152 [S a, S b] (I (cmpS a b)) :=
  apure_calls (l := [.string a, .string b]) (r := .int .i64 (cmpS a b)) rfl ⟨_, laysC.f106, rfl, rfl⟩ fun w => Any.strings_Compare laysC a b w
theorem c_pair_strings (u v : V) : APure Tryz.prog 239 [.agg [I u.k, I u.n, S u.s, I v.k, I v.n, S v.s]] (I (cmpS u.s v.s)) := by
  refine apure_introB Tryz.func239 rfl (by kernel_rfl) (by simp [Tryz.ntmps239]) rfl ?_
  intro E h hN hh hu hb
  rw [Tryz.ntmps239] at hN
  refine awp_of_wpC _ _ _ ?_
  simp -dsimp [go_sem, hN]
  refine tcall_pure (c_strings_Compare u.s v.s) ?_
  simp -dsimp [go_sem, hN]
theorem c_value_Compare (u v : V) : APure Tryz.prog 198 [.agg u.c, .agg v.c] (I (cmpV u v)) := by
  refine apure_introB Tryz.func198 rfl (by kernel_rfl) (by simp [Tryz.ntmps198]) rfl ?_
  intro E h hN hh hu hb
  rw [Tryz.ntmps198] at hN
  refine awp_of_wpC _ _ _ ?_
  simp -dsimp [go_sem, hN]
  refine cnd (fun h0 => ?_) (fun h0 => ?_) <;> simp at h0 <;> simp -dsimp [go_sem, hN]
  · refine tcall_pure (c_cmp_Compare u.k v.k) ?_
    simp -dsimp [go_sem, hN]
    simp [cmpV, h0]
  refine cnd (fun h1 => ?_) (fun h1 => ?_) <;> simp at h1 <;> simp -dsimp [go_sem, hN]
  · refine tcall_pure (c_pair_strings u v) ?_
    simp -dsimp [go_sem, hN]
    simp [cmpV, h0, h1]
  · refine tcall_pure (c_pair_numbers u v) ?_
    simp -dsimp [go_sem, hN]
    simp [cmpV, h0, h1]
end Go.Proofs.YtcmbmfmpelnimaaGreatDoor

set_option maxRecDepth 4000
namespace Go.Proofs.YtcmbmfmpelnimaaGreatDoor
open Go Go.Abs Go.Cw
@[go_sem] theorem zero_int : zeroAV Tryz.prog 3 = some (I 0) := by kernel_rfl
@[go_sem] theorem zero_bool : zeroAV Tryz.prog 4 = some (Bo false) := by kernel_rfl
@[go_sem] theorem zero_Value : zeroAV Tryz.prog 47 = some (.agg [I 0, I 0, S ⟨#[]⟩]) := by kernel_rfl
theorem c_types_of (vars : List (Bytes × Int)) (e : Ex) (d : Nat) (hv : chkE e d = 0) (h : AHeap) (m : Nat) (hm : h[m]? = some (.map (kAV I vars))) :
    ACalls Tryz.prog 268 [.agg e.x, .mapr m] h fun r h' => r = .ret (.tuple [I (ofE vars e).1, I (ofE vars e).2]) ∧ h' = h := by
  refine acalls_introB Tryz.func268 rfl (by kernel_rfl) (by simp [Tryz.ntmps268]) ?_
  intro E hN hh hu hb hb' hua
  rw [Tryz.ntmps268] at hN
  refine awp_of_wpC _ _ _ ?_
  simp [go_sem] at hb
  have hml : m < h.length := (List.getElem?_eq_some_iff.1 hm).1
  have a1 : ∀ l : AHeap, (h ++ l)[m]? = h[m]? := fun l => List.getElem?_append_left hml
  simp -dsimp [go_sem, hN]
  refine cnd (fun h0 => ?_) (fun h0 => ?_) <;> simp at h0
  · have ho : ofE vars e = varT (kGet vars e.s) := by rw [ofE_eq, if_pos h0]
    rcases hk : kGet vars e.s with _ | ty
    · rw [hk] at ho
      simp -dsimp [go_sem, hN, a1, hm, hk]
      rw [ho]
      exact ⟨_, .refl _, h, by simp [go_sem], by simp [go_sem], by simp, by simp [hu, go_sem], rfl, rfl⟩
    · rw [hk] at ho
      simp -dsimp [go_sem, hN, a1, hm, hk]
      repeat refine ⟨by grind, ?_⟩
      refine cnd (fun h1 => ?_) (fun h1 => ?_) <;> simp at h1
      · simp -dsimp [go_sem, hN]
        rw [ho, varT, if_pos (by omega)]
        exact ⟨_, .refl _, h, by simp [go_sem], by simp [go_sem], by simp, by simp [hu, go_sem], rfl, rfl⟩
      · simp -dsimp [go_sem, hN]
        rw [ho, varT, if_neg (by omega)]
        exact ⟨_, .refl _, h, by simp [go_sem], by simp [go_sem], by simp, by simp [hu, go_sem], rfl, rfl⟩
  simp -dsimp [go_sem, hN]
  refine awp_loopA (α := List Int) e.args.length (fun n o => ((ofL vars e.args).1 = (ofL vars (e.args.drop n)).1 ∧ ((ofL vars e.args).1 = 0 → (ofL vars e.args).2 = o ++ (ofL vars (e.args.drop n)).2)) ∧ o.length = n) (fun n o => ⟨[(1, .mapr m), (2, .ptr h.length 0), (8, .own (h.length + 1) o.length), (39, .slice (e.args.map Ex.c)), (40, I e.args.length), (41, I n)], h ++ [.cells e.x, .arr 3 1 (o.map iRow)]⟩) [] (by simp) ((nil_wk E _ 8 3 1 rfl).trans ?_) ?_
  · exact (Wk.mk (by simp [hh]) (by simp [go_sem]) (by simp [hu, hUnder_ext hu, go_sem]) (by simp [go_sem]; omega))
  intro n o hn ⟨⟨hI1, hI2⟩, hol⟩
  have hw := wrapS hn hb.2.1
  simp -dsimp [go_sem, hN]
  refine cnd (fun hc => ?_) (fun hc => ?_) <;> simp at hc
  · have hlt : SizeOf.sizeOf e.args[n] < SizeOf.sizeOf e := Ex.arg_lt (List.getElem_mem hc)
    rw [drop_next hc, ofL] at hI1 hI2
    simp -dsimp [go_sem, hN, hc]
    refine tcall (c_types_of vars e.args[n] (d + 1) (chkE_args hv _ (List.getElem_mem hc)) _ m (by rw [a1]; exact hm)) ?_
    rintro r h' ⟨rfl, rfl⟩
    simp -dsimp [go_sem, hN]
    refine cnd (fun h1 => ?_) (fun h1 => ?_) <;> simp at h1
    · simp -dsimp [go_sem, hN]
      rw [if_pos h1] at hI1
      simp only at hI1
      have ho : ofE vars e = (0, (ofE vars e.args[n]).2) := by rw [ofE_eq vars e, if_neg h0, if_pos (by rw [hI1]; exact h1), hI1]
      rw [ho]
      exact ⟨_, .refl _, h, by simp [go_sem], by simp [go_sem], by simp, by simp [hu, go_sem], rfl, rfl⟩
    · rw [if_neg (by simpa using h1)] at hI1 hI2
      simp only at hI1 hI2
      simp -dsimp [go_sem, hN, hw]
      refine ⟨by omega, hc, o ++ [(ofE vars e.args[n]).1], ⟨⟨hI1, fun h2 => by rw [hI2 h2]; simp⟩, by simp; omega⟩, ?_⟩
      exact (Wk.mk (by simp [hh]) (by simp [go_sem]) (by simp [hu, hUnder_ext hu, go_sem]) (by simp [go_sem]; omega))
  rw [List.drop_eq_nil_of_le (by omega), ofL] at hI1 hI2
  simp only at hI1 hI2
  have hI3 := hI2 hI1
  rw [List.append_nil] at hI3
  have hoe := ofE_eq vars e
  rw [if_neg h0, hI1, if_neg (by simp), hI3] at hoe
  have har := chkE_arity hv
  simp -dsimp [go_sem, hN]
  refine cnd (fun h1 => ?_) (fun h1 => ?_) <;> simp at h1
  · rw [if_pos h1] at hoe
    have h2 : o.length = 2 := by
      have : arity e.op = 2 := by unfold arity; rw [if_neg (by omega), if_neg (by omega), if_neg (by omega)]
      omega
    obtain ⟨x, y, rfl⟩ : ∃ x y, o = [x, y] := by
      match o, h2 with
      | [x, y], _ => exact ⟨x, y, rfl⟩
    simp at hoe
    simp -dsimp [go_sem, hN]
    refine awp_drawQ 13 mixed (by kernel_rfl) (by kernel_rfl) ?_
    simp -dsimp [go_sem, hN, iRow]
    refine tgcall_pure (c_types_compared e.op x) (by simp) ?_
    simp -dsimp [go_sem, hN]
    repeat refine ⟨by grind, ?_⟩
    refine cnd (fun h3 => ?_) (fun h3 => ?_)
    · simp -dsimp [go_sem, hN]
      rw [hoe, if_pos (by simp at h3; grind)]
      exact ⟨_, .refl _, h, by simp [go_sem], by simp [go_sem], by simp, by simp [hu, go_sem], rfl, rfl⟩
    · simp -dsimp [go_sem, hN]
      rw [hoe, if_neg (by simp at h3; grind)]
      exact ⟨_, .refl _, h, by simp [go_sem], by simp [go_sem], by simp, by simp [hu, go_sem], rfl, rfl⟩
  rw [if_neg (by omega)] at hoe
  simp -dsimp [go_sem, hN]
  refine tcall_pure (c_types_signature e.op) ?_
  simp -dsimp [go_sem, hN]
  refine awp_loopN o.length (fun n => (o.drop n).all (fun t => decide (t = (sigOf e.op).1)) = o.all (fun t => decide (t = (sigOf e.op).1))) (fun n => ⟨[(13, I (sigOf e.op).1), (14, I (sigOf e.op).2), (89, .slice (o.map iRow)), (90, I o.length), (91, I n)], h⟩) (by simp) ((norm_wk E _).trans ?_) ?_
  · exact (Wk.mk (by simp [hh]) (by simp [go_sem]) (by simp [hu, hUnder_ext hu, go_sem]) (by simp [go_sem]; try omega))
  intro n hn hJ
  have hw := wrapS hn (by omega)
  simp -dsimp [go_sem, hN]
  refine cnd (fun hc => ?_) (fun hc => ?_) <;> simp at hc
  · rw [drop_next hc, List.all_cons] at hJ
    simp -dsimp [go_sem, hN, hc, iRow]
    refine cnd (fun h3 => ?_) (fun h3 => ?_) <;> simp at h3
    · simp -dsimp [go_sem, hN]
      rw [hoe, if_neg (by rw [← hJ]; simp [h3])]
      exact ⟨_, .refl _, h, by simp [go_sem], by simp [go_sem], by simp, by simp [hu, go_sem], rfl, rfl⟩
    · simp -dsimp [go_sem, hN, hw]
      refine ⟨hc, by simpa [h3] using hJ, ?_⟩
      exact (Wk.mk (by simp [hh]) (by simp [go_sem]) (by simp [hu, hUnder_ext hu, go_sem]) (by simp [go_sem]; try omega))
  · rw [List.drop_eq_nil_of_le (by omega)] at hJ
    simp -dsimp [go_sem, hN]
    rw [hoe, if_pos (by rw [← hJ]; rfl)]
    exact ⟨_, .refl _, h, by simp [go_sem], by simp [go_sem], by simp, by simp [hu, go_sem], rfl, rfl⟩
termination_by SizeOf.sizeOf e
end Go.Proofs.YtcmbmfmpelnimaaGreatDoor

set_option maxRecDepth 4000
set_option maxHeartbeats 2000000
namespace Go.Proofs.YtcmbmfmpelnimaaGreatDoor
open Go Go.Abs Go.Cw
def stopAV (z : Stop) : AV := .iface 86 (.agg [I z.status, I z.code, .slice [], S z.miss])
@[simp] theorem norm_stop (h : AHeap) (z : Stop) : (stopAV z).norm h = stopAV z := by simp [stopAV, AV.norm, normL]
@[simp] theorem under_stop (n : Nat) (z : Stop) : (stopAV z).under n = true := by simp [stopAV, AV.under, underL]
def endV : EV → AEnd
  | .ok v => .ret (.agg v.c)
  | .error z => .panic (stopAV z)
def endU : Except Stop Unit → AEnd
  | .ok _ => .ret (.tuple [])
  | .error z => .panic (stopAV z)
theorem c_interp_abort (code : Int) (h : AHeap) : ACalls Tryz.prog 95 [I code] h fun r h' => r = .panic (stopAV (ab code)) ∧ h' = h := by
  refine acalls_introB Tryz.func95 rfl (by kernel_rfl) (by simp [Tryz.ntmps95]) ?_
  intro E hN hh hu hb hb' hua
  rw [Tryz.ntmps95] at hN
  refine awp_of_wpC _ _ _ ?_
  simp -dsimp [go_sem, hN]
  exact ⟨_, .refl _, h, by simp [go_sem], hwk.refl _, Nat.le_refl _, hu, rfl, rfl⟩
theorem c_interp_integer (n : Int) : APure Tryz.prog 91 [I n] (.agg (vI n).c) := by
  refine apure_introB Tryz.func91 rfl (by kernel_rfl) (by simp [Tryz.ntmps91]) rfl ?_
  intro E h hN hh hu hb
  rw [Tryz.ntmps91] at hN
  refine awp_of_wpC _ _ _ ?_
  simp -dsimp [go_sem, hN]
  exact ⟨rfl, rfl, rfl⟩
theorem c_interp_truth (b : Bool) : APure Tryz.prog 140 [Bo b] (.agg (vB b).c) := by
  refine apure_introB Tryz.func140 rfl (by kernel_rfl) (by simp [Tryz.ntmps140]) rfl ?_
  intro E h hN hh hu hb
  rw [Tryz.ntmps140] at hN
  refine awp_of_wpC _ _ _ ?_
  simp -dsimp [go_sem, hN]
  refine cnd (fun h0 => ?_) (fun h0 => ?_)
  · subst h0
    simp -dsimp [go_sem, hN]
    exact ⟨rfl, rfl, rfl⟩
  · subst h0
    simp -dsimp [go_sem, hN]
    exact ⟨rfl, rfl, rfl⟩
theorem c_interp_must (b : Bool) (h : AHeap) : ACalls Tryz.prog 92 [Bo b] h fun r h' => r = (if b then .ret (.tuple []) else .panic (stopAV (ab 1009))) ∧ h' = h := by
  refine acalls_introB Tryz.func92 rfl (by kernel_rfl) (by simp [Tryz.ntmps92]) ?_
  intro E hN hh hu hb hb' hua
  rw [Tryz.ntmps92] at hN
  refine awp_of_wpC _ _ _ ?_
  simp -dsimp [go_sem, hN]
  refine cnd (fun h0 => ?_) (fun h0 => ?_) <;> simp at h0 <;> subst h0
  · simp -dsimp [go_sem, hN]
    refine tcall (c_interp_abort 1009 h) ?_
    rintro r h' ⟨rfl, rfl⟩
    simp -dsimp [go_sem, hN]
    exact ⟨_, .refl _, _, by simp, hwk.refl _, Nat.le_refl _, hu, rfl, rfl⟩
  · simp -dsimp [go_sem, hN]
    exact ⟨_, .refl _, _, by simp [go_sem], hwk.refl _, Nat.le_refl _, hu, rfl, rfl⟩
theorem c_interp_restart (k : Bytes) (h : AHeap) : ACalls Tryz.prog 168 [S k] h fun r h' => r = .panic (stopAV (rst k)) ∧ h' = h := by
  refine acalls_introB Tryz.func168 rfl (by kernel_rfl) (by simp [Tryz.ntmps168]) ?_
  intro E hN hh hu hb hb' hua
  rw [Tryz.ntmps168] at hN
  refine awp_of_wpC _ _ _ ?_
  simp -dsimp [go_sem, hN]
  exact ⟨_, .refl _, h, by simp [go_sem], hwk.refl _, Nat.le_refl _, hu, rfl, rfl⟩
theorem c_interp_text (s : Bytes) (h : AHeap) : ACalls Tryz.prog 141 [S s] h fun r h' => r = endV (textS s) ∧ h' = h := by
  refine acalls_introB Tryz.func141 rfl (by kernel_rfl) (by simp [Tryz.ntmps141]) ?_
  intro E hN hh hu hb hb' hua
  rw [Tryz.ntmps141] at hN
  refine awp_of_wpC _ _ _ ?_
  simp -dsimp [go_sem, hN]
  refine cnd (fun h0 => ?_) (fun h0 => ?_) <;> simp at h0
  · simp -dsimp [go_sem, hN]
    refine tcall (c_interp_abort 1006 _) ?_
    rintro r h' ⟨rfl, rfl⟩
    simp -dsimp [go_sem, hN]
    rw [textS, if_pos (by omega)]
    exact ⟨_, .refl _, _, by simp [go_sem], by simp [go_sem], by simp, by simp [hu, go_sem], rfl, rfl⟩
  · simp -dsimp [go_sem, hN]
    rw [textS, if_neg (by omega)]
    exact ⟨_, .refl _, h, by simp [go_sem], by simp [go_sem], by simp, by simp [hu, go_sem], rfl, rfl⟩
theorem c_interp_exact (r : Int × Int) (h : AHeap) : ACalls Tryz.prog 138 [I r.1, I r.2] h fun x h' => x = endV (exactS r) ∧ h' = h := by
  refine acalls_introB Tryz.func138 rfl (by kernel_rfl) (by simp [Tryz.ntmps138]) ?_
  intro E hN hh hu hb hb' hua
  rw [Tryz.ntmps138] at hN
  refine awp_of_wpC _ _ _ ?_
  simp -dsimp [go_sem, hN]
  refine cnd (fun h0 => ?_) (fun h0 => ?_) <;> simp at h0
  · simp -dsimp [go_sem, hN]
    refine tcall_pure (c_interp_integer r.1) ?_
    simp -dsimp [go_sem, hN]
    rw [exactS, if_pos h0]
    exact ⟨_, .refl _, h, by simp [go_sem], by simp [go_sem], by simp, by simp [hu, go_sem], rfl, rfl⟩
  simp -dsimp [go_sem, hN]
  refine cnd (fun h1 => ?_) (fun h1 => ?_) <;> simp at h1
  · simp -dsimp [go_sem, hN]
    refine tcall (c_interp_abort 1002 _) ?_
    rintro r' h' ⟨rfl, rfl⟩
    simp -dsimp [go_sem, hN]
    rw [exactS, if_neg h0, if_pos h1]
    exact ⟨_, .refl _, h, by simp [go_sem], by simp [go_sem], by simp, by simp [hu, go_sem], rfl, rfl⟩
  · simp -dsimp [go_sem, hN]
    refine tcall (c_interp_abort 1001 _) ?_
    rintro r' h' ⟨rfl, rfl⟩
    simp -dsimp [go_sem, hN]
    rw [exactS, if_neg h0, if_neg h1]
    exact ⟨_, .refl _, h, by simp [go_sem], by simp [go_sem], by simp, by simp [hu, go_sem], rfl, rfl⟩
theorem c_interp_arithmetic (op a b : Int) (h : AHeap) : ACalls Tryz.prog 144 [I op, I a, I b] h fun x h' => x = endV (arithS op a b) ∧ h' = h := by
  refine acalls_introB Tryz.func144 rfl (by kernel_rfl) (by simp [Tryz.ntmps144]) ?_
  intro E hN hh hu hb hb' hua
  rw [Tryz.ntmps144] at hN
  refine awp_of_wpC _ _ _ ?_
  simp -dsimp [go_sem, hN]
  refine cnd (fun h0 => ?_) (fun h0 => ?_) <;> simp at h0
  · simp -dsimp [go_sem, hN]
    refine tcall_pure (c_num_Add a b) ?_
    simp -dsimp [go_sem, hN]
    refine tcall (c_interp_exact (numAdd a b) _) ?_
    rintro r' h' ⟨rfl, rfl⟩
    rw [arithS,  if_pos h0]
    cases exactS (numAdd a b) <;> simp -dsimp [go_sem, hN, endV] <;> exact ⟨_, .refl _, h, by simp [go_sem], by simp [go_sem], by simp, by simp [hu, go_sem], rfl, rfl⟩
  simp -dsimp [go_sem, hN]
  refine cnd (fun h1 => ?_) (fun h1 => ?_) <;> simp at h1
  · simp -dsimp [go_sem, hN]
    refine tcall_pure (c_num_Sub a b) ?_
    simp -dsimp [go_sem, hN]
    refine tcall (c_interp_exact (numSub a b) _) ?_
    rintro r' h' ⟨rfl, rfl⟩
    rw [arithS, if_neg h0, if_pos h1]
    cases exactS (numSub a b) <;> simp -dsimp [go_sem, hN, endV] <;> exact ⟨_, .refl _, h, by simp [go_sem], by simp [go_sem], by simp, by simp [hu, go_sem], rfl, rfl⟩
  simp -dsimp [go_sem, hN]
  refine cnd (fun h2 => ?_) (fun h2 => ?_) <;> simp at h2
  · simp -dsimp [go_sem, hN]
    refine tcall_pure (c_num_Mul a b) ?_
    simp -dsimp [go_sem, hN]
    refine tcall (c_interp_exact (numMul a b) _) ?_
    rintro r' h' ⟨rfl, rfl⟩
    rw [arithS, if_neg h0, if_neg h1, if_pos h2]
    cases exactS (numMul a b) <;> simp -dsimp [go_sem, hN, endV] <;> exact ⟨_, .refl _, h, by simp [go_sem], by simp [go_sem], by simp, by simp [hu, go_sem], rfl, rfl⟩
  simp -dsimp [go_sem, hN]
  refine cnd (fun h3 => ?_) (fun h3 => ?_) <;> simp at h3
  · simp -dsimp [go_sem, hN]
    refine tcall_pure (c_num_Div a b) ?_
    simp -dsimp [go_sem, hN]
    refine tcall (c_interp_exact (numDiv a b) _) ?_
    rintro r' h' ⟨rfl, rfl⟩
    rw [arithS, if_neg h0, if_neg h1, if_neg h2, if_pos h3]
    cases exactS (numDiv a b) <;> simp -dsimp [go_sem, hN, endV] <;> exact ⟨_, .refl _, h, by simp [go_sem], by simp [go_sem], by simp, by simp [hu, go_sem], rfl, rfl⟩
  simp -dsimp [go_sem, hN]
  refine tcall_pure (c_num_Mod a b) ?_
  simp -dsimp [go_sem, hN]
  refine tcall (c_interp_exact (numMod a b) _) ?_
  rintro r' h' ⟨rfl, rfl⟩
  rw [arithS, if_neg h0, if_neg h1, if_neg h2, if_neg h3]
  cases exactS (numMod a b) <;> simp -dsimp [go_sem, hN, endV] <;> exact ⟨_, .refl _, h, by simp [go_sem], by simp [go_sem], by simp, by simp [hu, go_sem], rfl, rfl⟩
theorem c_must (b : Bool) (h : AHeap) : ACalls Tryz.prog 92 [Bo b] h fun r h' => ((b = true ∧ r = .ret (.tuple [])) ∨ (b = false ∧ r = .panic (stopAV (ab 1009)))) ∧ h' = h :=
  (c_interp_must b h).mono (by
    rintro r h' ⟨rfl, rfl⟩
    cases b
    · exact ⟨.inr ⟨rfl, rfl⟩, rfl⟩
    · exact ⟨.inl ⟨rfl, rfl⟩, rfl⟩)
theorem c_interp_compare (op : Int) (a b : V) (h : AHeap) : ACalls Tryz.prog 145 [I op, .agg a.c, .agg b.c] h fun x h' => x = endV (compS op a b) ∧ h' = h := by
  refine acalls_introB Tryz.func145 rfl (by kernel_rfl) (by simp [Tryz.ntmps145]) ?_
  intro E hN hh hu hb hb' hua
  rw [Tryz.ntmps145] at hN
  refine awp_of_wpC _ _ _ ?_
  simp -dsimp [go_sem, hN]
  repeat refine ⟨by grind, ?_⟩
  refine tcall (c_must _ _) ?_
  rintro r h' ⟨⟨hm, rfl⟩ | ⟨hm, rfl⟩, rfl⟩ <;> simp at hm
  rotate_left
  · simp -dsimp [go_sem, hN]
    rw [compS, if_neg (by grind)]
    exact ⟨_, .refl _, h, by simp [go_sem], by simp [go_sem], by simp, by simp [hu, go_sem], rfl, rfl⟩
  rw [compS, if_pos (by grind)]
  simp -dsimp [go_sem, hN]
  refine tcall_pure (c_value_Compare a b) ?_
  simp -dsimp [go_sem, hN]
  refine cnd (fun h0 => ?_) (fun h0 => ?_) <;> simp at h0
  · simp -dsimp [go_sem, hN]
    refine tcall_pure (c_interp_truth (decide (cmpV a b = 0))) ?_
    simp -dsimp [go_sem, hN]
    rw [cmpBy,  if_pos h0]
    exact ⟨_, .refl _, h, by simp [go_sem], by simp [go_sem], by simp, by simp [hu, go_sem], rfl, rfl⟩
  simp -dsimp [go_sem, hN]
  refine cnd (fun h1 => ?_) (fun h1 => ?_) <;> simp at h1
  · simp -dsimp [go_sem, hN]
    refine tcall_pure (c_interp_truth (!decide (cmpV a b = 0))) ?_
    simp -dsimp [go_sem, hN]
    rw [cmpBy, if_neg h0, if_pos h1]
    exact ⟨_, .refl _, h, by simp [go_sem], by simp [go_sem], by simp, by simp [hu, go_sem], rfl, rfl⟩
  simp -dsimp [go_sem, hN]
  refine cnd (fun h2 => ?_) (fun h2 => ?_) <;> simp at h2
  · simp -dsimp [go_sem, hN]
    refine tcall_pure (c_interp_truth (decide (cmpV a b < 0))) ?_
    simp -dsimp [go_sem, hN]
    rw [cmpBy, if_neg h0, if_neg h1, if_pos h2]
    exact ⟨_, .refl _, h, by simp [go_sem], by simp [go_sem], by simp, by simp [hu, go_sem], rfl, rfl⟩
  simp -dsimp [go_sem, hN]
  refine cnd (fun h3 => ?_) (fun h3 => ?_) <;> simp at h3
  · simp -dsimp [go_sem, hN]
    refine tcall_pure (c_interp_truth (decide (cmpV a b ≤ 0))) ?_
    simp -dsimp [go_sem, hN]
    rw [cmpBy, if_neg h0, if_neg h1, if_neg h2, if_pos h3]
    exact ⟨_, .refl _, h, by simp [go_sem], by simp [go_sem], by simp, by simp [hu, go_sem], rfl, rfl⟩
  simp -dsimp [go_sem, hN]
  refine cnd (fun h4 => ?_) (fun h4 => ?_) <;> simp at h4
  · simp -dsimp [go_sem, hN]
    refine tcall_pure (c_interp_truth (decide (0 < cmpV a b))) ?_
    simp -dsimp [go_sem, hN]
    rw [cmpBy, if_neg h0, if_neg h1, if_neg h2, if_neg h3, if_pos h4]
    exact ⟨_, .refl _, h, by simp [go_sem], by simp [go_sem], by simp, by simp [hu, go_sem], rfl, rfl⟩
  simp -dsimp [go_sem, hN]
  refine tcall_pure (c_interp_truth (decide (0 ≤ cmpV a b))) ?_
  simp -dsimp [go_sem, hN]
  rw [cmpBy, if_neg h0, if_neg h1, if_neg h2, if_neg h3, if_neg h4]
  exact ⟨_, .refl _, h, by simp [go_sem], by simp [go_sem], by simp, by simp [hu, go_sem], rfl, rfl⟩
theorem c_interp_binary (op : Int) (a b : V) (h : AHeap) (hS : a.s.size + b.s.size ≤ 68719476736) : ACalls Tryz.prog 94 [I op, .agg a.c, .agg b.c] h fun x h' => x = endV (binS op a b) ∧ h' = h := by
  refine acalls_introB Tryz.func94 rfl (by kernel_rfl) (by simp [Tryz.ntmps94]) ?_
  intro E hN hh hu hb hb' hua
  rw [Tryz.ntmps94] at hN
  refine awp_of_wpC _ _ _ ?_
  simp -dsimp [go_sem, hN]
  refine cnd (fun h0 => ?_) (fun h0 => ?_) <;> simp at h0
  · simp -dsimp [go_sem, hN, decide_eq_true h0]
    repeat refine ⟨by grind, ?_⟩
    refine tcall (c_must _ _) ?_
    rintro r h' ⟨⟨hm, rfl⟩ | ⟨hm, rfl⟩, rfl⟩ <;> simp at hm
    · simp -dsimp [go_sem, hN]
      refine tcall (c_interp_arithmetic op a.n b.n _) ?_
      rintro r' h' ⟨rfl, rfl⟩
      rw [binS, if_pos (by omega), if_pos (by grind)]
      cases arithS op a.n b.n <;> simp -dsimp [go_sem, hN, endV] <;> exact ⟨_, .refl _, h, by simp [go_sem], by simp [go_sem], by simp, by simp [hu, go_sem], rfl, rfl⟩
    · simp -dsimp [go_sem, hN]
      rw [binS, if_pos (by omega), if_neg (by grind)]
      exact ⟨_, .refl _, h, by simp [go_sem], by simp [go_sem], by simp, by simp [hu, go_sem], rfl, rfl⟩
  simp -dsimp [go_sem, hN]
  refine cnd (fun h1 => ?_) (fun h1 => ?_) <;> simp at h1
  · simp -dsimp [go_sem, hN, decide_eq_true h1]
    repeat refine ⟨by grind, ?_⟩
    refine tcall (c_must _ _) ?_
    rintro r h' ⟨⟨hm, rfl⟩ | ⟨hm, rfl⟩, rfl⟩ <;> simp at hm
    · simp -dsimp [go_sem, hN]
      refine tcall (c_interp_arithmetic op a.n b.n _) ?_
      rintro r' h' ⟨rfl, rfl⟩
      rw [binS, if_pos (by omega), if_pos (by grind)]
      cases arithS op a.n b.n <;> simp -dsimp [go_sem, hN, endV] <;> exact ⟨_, .refl _, h, by simp [go_sem], by simp [go_sem], by simp, by simp [hu, go_sem], rfl, rfl⟩
    · simp -dsimp [go_sem, hN]
      rw [binS, if_pos (by omega), if_neg (by grind)]
      exact ⟨_, .refl _, h, by simp [go_sem], by simp [go_sem], by simp, by simp [hu, go_sem], rfl, rfl⟩
  simp -dsimp [go_sem, hN]
  refine cnd (fun h2 => ?_) (fun h2 => ?_) <;> simp at h2
  · simp -dsimp [go_sem, hN, decide_eq_true h2]
    repeat refine ⟨by grind, ?_⟩
    refine tcall (c_must _ _) ?_
    rintro r h' ⟨⟨hm, rfl⟩ | ⟨hm, rfl⟩, rfl⟩ <;> simp at hm
    · simp -dsimp [go_sem, hN]
      refine tcall (c_interp_arithmetic op a.n b.n _) ?_
      rintro r' h' ⟨rfl, rfl⟩
      rw [binS, if_pos (by omega), if_pos (by grind)]
      cases arithS op a.n b.n <;> simp -dsimp [go_sem, hN, endV] <;> exact ⟨_, .refl _, h, by simp [go_sem], by simp [go_sem], by simp, by simp [hu, go_sem], rfl, rfl⟩
    · simp -dsimp [go_sem, hN]
      rw [binS, if_pos (by omega), if_neg (by grind)]
      exact ⟨_, .refl _, h, by simp [go_sem], by simp [go_sem], by simp, by simp [hu, go_sem], rfl, rfl⟩
  simp -dsimp [go_sem, hN]
  refine cnd (fun h3 => ?_) (fun h3 => ?_) <;> simp at h3
  · simp -dsimp [go_sem, hN, decide_eq_true h3]
    repeat refine ⟨by grind, ?_⟩
    refine tcall (c_must _ _) ?_
    rintro r h' ⟨⟨hm, rfl⟩ | ⟨hm, rfl⟩, rfl⟩ <;> simp at hm
    · simp -dsimp [go_sem, hN]
      refine tcall (c_interp_arithmetic op a.n b.n _) ?_
      rintro r' h' ⟨rfl, rfl⟩
      rw [binS, if_pos (by omega), if_pos (by grind)]
      cases arithS op a.n b.n <;> simp -dsimp [go_sem, hN, endV] <;> exact ⟨_, .refl _, h, by simp [go_sem], by simp [go_sem], by simp, by simp [hu, go_sem], rfl, rfl⟩
    · simp -dsimp [go_sem, hN]
      rw [binS, if_pos (by omega), if_neg (by grind)]
      exact ⟨_, .refl _, h, by simp [go_sem], by simp [go_sem], by simp, by simp [hu, go_sem], rfl, rfl⟩
  simp -dsimp [go_sem, hN]
  refine cnd (fun h4 => ?_) (fun h4 => ?_) <;> simp at h4
  · simp -dsimp [go_sem, hN]
    repeat refine ⟨by grind, ?_⟩
    refine tcall (c_must _ _) ?_
    rintro r h' ⟨⟨hm, rfl⟩ | ⟨hm, rfl⟩, rfl⟩ <;> simp at hm
    · simp -dsimp [go_sem, hN]
      refine tcall (c_interp_arithmetic op a.n b.n _) ?_
      rintro r' h' ⟨rfl, rfl⟩
      rw [binS, if_pos (by omega), if_pos (by grind)]
      cases arithS op a.n b.n <;> simp -dsimp [go_sem, hN, endV] <;> exact ⟨_, .refl _, h, by simp [go_sem], by simp [go_sem], by simp, by simp [hu, go_sem], rfl, rfl⟩
    · simp -dsimp [go_sem, hN]
      rw [binS, if_pos (by omega), if_neg (by grind)]
      exact ⟨_, .refl _, h, by simp [go_sem], by simp [go_sem], by simp, by simp [hu, go_sem], rfl, rfl⟩
  simp -dsimp [go_sem, hN]
  refine cnd (fun h5 => ?_) (fun h5 => ?_) <;> simp at h5
  · simp -dsimp [go_sem, hN]
    repeat refine ⟨by grind, ?_⟩
    refine tcall (c_must _ _) ?_
    rintro r h' ⟨⟨hm, rfl⟩ | ⟨hm, rfl⟩, rfl⟩ <;> simp at hm
    rotate_left
    · simp -dsimp [go_sem, hN]
      rw [binS, if_neg (by omega), if_pos h5, if_neg (by grind)]
      exact ⟨_, .refl _, h, by simp [go_sem], by simp [go_sem], by simp, by simp [hu, go_sem], rfl, rfl⟩
    rw [binS, if_neg (by omega), if_pos h5, if_pos (by grind)]
    simp -dsimp [go_sem, hN]
    repeat refine ⟨by grind, ?_⟩
    refine tcall_pure (c_interp_truth (decide (a.n = 1) && decide (b.n = 1))) ?_
    simp -dsimp [go_sem, hN]
    exact ⟨_, .refl _, h, by simp [go_sem], by simp [go_sem], by simp, by simp [hu, go_sem], rfl, rfl⟩
  simp -dsimp [go_sem, hN]
  refine cnd (fun h6 => ?_) (fun h6 => ?_) <;> simp at h6
  · simp -dsimp [go_sem, hN]
    repeat refine ⟨by grind, ?_⟩
    refine tcall (c_must _ _) ?_
    rintro r h' ⟨⟨hm, rfl⟩ | ⟨hm, rfl⟩, rfl⟩ <;> simp at hm
    rotate_left
    · simp -dsimp [go_sem, hN]
      rw [binS, if_neg (by omega), if_neg h5, if_pos h6, if_neg (by grind)]
      exact ⟨_, .refl _, h, by simp [go_sem], by simp [go_sem], by simp, by simp [hu, go_sem], rfl, rfl⟩
    rw [binS, if_neg (by omega), if_neg h5, if_pos h6, if_pos (by grind)]
    simp -dsimp [go_sem, hN]
    repeat refine ⟨by grind, ?_⟩
    refine tcall_pure (c_interp_truth (decide (a.n = 1) || decide (b.n = 1))) ?_
    simp -dsimp [go_sem, hN]
    exact ⟨_, .refl _, h, by simp [go_sem], by simp [go_sem], by simp, by simp [hu, go_sem], rfl, rfl⟩
  simp -dsimp [go_sem, hN]
  refine cnd (fun h7 => ?_) (fun h7 => ?_) <;> simp at h7
  · simp -dsimp [go_sem, hN]
    repeat refine ⟨by grind, ?_⟩
    refine tcall (c_must _ _) ?_
    rintro r h' ⟨⟨hm, rfl⟩ | ⟨hm, rfl⟩, rfl⟩ <;> simp at hm
    rotate_left
    · simp -dsimp [go_sem, hN]
      rw [binS, if_neg (by omega), if_neg h5, if_neg h6, if_pos h7, if_neg (by grind)]
      exact ⟨_, .refl _, h, by simp [go_sem], by simp [go_sem], by simp, by simp [hu, go_sem], rfl, rfl⟩
    rw [binS, if_neg (by omega), if_neg h5, if_neg h6, if_pos h7, if_pos (by grind)]
    simp -dsimp [go_sem, hN]
    refine ⟨hS, ?_⟩
    refine tcall (c_interp_text (a.s ++ b.s) _) ?_
    rintro r' h' ⟨rfl, rfl⟩
    cases textS (a.s ++ b.s) <;> simp -dsimp [go_sem, hN, endV] <;> exact ⟨_, .refl _, h, by simp [go_sem], by simp [go_sem], by simp, by simp [hu, go_sem], rfl, rfl⟩
  simp -dsimp [go_sem, hN]
  refine tcall (c_interp_compare op a b _) ?_
  rintro r' h' ⟨rfl, rfl⟩
  rw [binS, if_neg (by omega), if_neg h5, if_neg h6, if_neg h7]
  cases compS op a b <;> simp -dsimp [go_sem, hN, endV] <;> exact ⟨_, .refl _, h, by simp [go_sem], by simp [go_sem], by simp, by simp [hu, go_sem], rfl, rfl⟩
end Go.Proofs.YtcmbmfmpelnimaaGreatDoor

set_option maxRecDepth 4000
namespace Go.Proofs.YtcmbmfmpelnimaaGreatDoor
open Go Go.Abs Go.Cw Go.Shelf
def renF : Ren := ⟨fun
  | 129 => 275 | 173 => 191 | 246 => 236 | 283 => 259 | 284 => 260 | 285 => 261 | 286 => 262
  | 317 => 274 | 318 => 276 | 319 => 277 | 320 => 278 | 337 => 284 | 338 => 285 | x => x,
  fun | 0 => 0 | 2 => 2 | 3 => 3 | 4 => 4 | 5 => 5 | 9 => 9 | 20 => 20 | 37 => 252 | 46 => 185 | 51 => 281 | 53 => 204 | 171 => 268 | 173 => 271 | 212 => 280 | 213 => 282 | 232 => 287 | 233 => 288 | x => x,
  fun | 17 => 1 | 18 => 2 | 19 => 3 | x => x⟩
theorem laysF0 : Lays.n173 Tryz.prog renF := by
  constructor <;> first | exact fun _ => by kernel_rfl | kernel_rfl
theorem laysF : LaysM.n173 Tryz.prog renF := { laysF0 with i0 := by kernel_rfl, i2 := by kernel_rfl, i3 := by kernel_rfl, i4 := by kernel_rfl, i5 := by kernel_rfl, i9 := by kernel_rfl, i20 := by kernel_rfl, i37 := by kernel_rfl, i46 := by kernel_rfl, i51 := by kernel_rfl, i53 := by kernel_rfl, i171 := by kernel_rfl, i173 := by kernel_rfl, i212 := by kernel_rfl, i232 := by kernel_rfl, i233 := by kernel_rfl, m17 := by kernel_rfl, m18 := by kernel_rfl, m19 := by kernel_rfl }
def tabV : Array Value := (Lib.pow10Tab.map fun z => Value.int .u64 z).toArray
def tabO (T : TypeId) (x : Nat × Nat) : AObj := .raw 1 (fun _ => .cells tabV T x) []
def fmtI (n : Int) : Bytes := ⟨(Lib.itoa n).toArray⟩
theorem hsim_grow {c : Ctx} {h : AHeap} {w : World} (hs : HSim c h w) (k : Nat) (os : Array Obj) : HSim c h (Sort.grow (w.drewN k) os) ∧ (⟨0, c, h, w⟩ : Ent).ok c h (Sort.grow (w.drewN k) os) := by
  have hw : ∀ b, b < w.heap.size → (Sort.grow (w.drewN k) os).heap[b]? = w.heap[b]? := fun b hb => by
    show (w.heap ++ os)[b]? = _
    rw [Array.getElem?_append_left hb]
  refine ⟨hs.ext hw (.refl c) (fun _ _ => rfl) (fun _ _ _ h => .inl h) hs.dom, ?_⟩
  exact (Ent.ok.refl 0 hs).ext' hs hw (.refl c) (fun _ => rfl) rfl rfl rfl (by show _ ≤ (w.heap ++ os).size; simp) (fun _ _ _ h => .inl h)
theorem c_FormatInt (n : Int) (hn : i64 n) (h : AHeap) (g : Nat) {T : TypeId} {x : Nat × Nat} (hg : h[g]? = some (tabO T x)) (hsz : (fmtI n).size ≤ 68719476736) :
    ACalls Tryz.prog 191 [I n, I 10] h fun r h' => r = .ret (S (fmtI n)) ∧ h' = h := by
  refine ⟨⟨_, laysF.f173, rfl, rfl⟩, fun c w vs hs ha => ?_⟩
  obtain ⟨hb, us, hv, _⟩ := hs.obj _ _ hg
  have htab : Lib.TabIs Tryz.prog w "internal/strconv.uint64pow10" .u64 Lib.pow10Tab := by
    unfold Lib.TabIs World.var?
    rw [laysF.m17]
    simp only [Option.bind_some]
    show (match w.heap[1]? with | some (.cells cs _ _) => some cs | _ => none) = _
    rw [hv]
    rfl
  have he : vs = #[.int .i64 n, .int .i64 10] := relL_vals (l := [.int .i64 n, .int .i64 10]) ha
  rw [he]
  refine (Any.strconv_FormatInt_10 laysF n hn.1 hn.2 w htab).mono ?_
  rintro e w' ⟨rfl, k, os, rfl⟩
  obtain ⟨g1, g2⟩ := hsim_grow hs k os
  exact ⟨_, h, c, ⟨rfl, rfl⟩, .val _ (by simpa [strOk] using hsz), g1, g2⟩
theorem c_num_Format (n : Int) (hn : i64 n) (h : AHeap) (g : Nat) {T : TypeId} {x : Nat × Nat} (hg : h[g]? = some (tabO T x)) :
    ACalls Tryz.prog 142 [I n] h fun r h' => r = .ret (S (fmtI n)) ∧ h' = h := by
  have hsz : (fmtI n).size ≤ 68719476736 := by
    have := Lib.itoa_length_le n hn.1 hn.2
    show (Lib.itoa n).length ≤ _
    omega
  refine acalls_introB Tryz.func142 rfl (by kernel_rfl) (by simp [Tryz.ntmps142]) ?_
  intro E hN hh hu hb hb' hua
  rw [Tryz.ntmps142] at hN
  refine awp_of_wpC _ _ _ ?_
  simp -dsimp [go_sem, hN]
  refine tcall (c_FormatInt n hn h g hg hsz) ?_
  rintro r h' ⟨rfl, rfl⟩
  simp -dsimp [go_sem, hN]
  exact ⟨_, .refl _, _, rfl, hwk.refl _, Nat.le_refl _, hu, rfl, rfl⟩
end Go.Proofs.YtcmbmfmpelnimaaGreatDoor

set_option maxRecDepth 4000
set_option maxHeartbeats 1000000
namespace Go.Proofs.YtcmbmfmpelnimaaGreatDoor
open Go Go.Abs Go.Cw
def kwL : List Bytes := [⟨#[112, 114, 111, 99]⟩, ⟨#[108, 101, 116]⟩, ⟨#[112, 117, 116]⟩, ⟨#[100, 101, 108, 101, 116, 101]⟩, ⟨#[105, 102]⟩, ⟨#[101, 108, 115, 101]⟩, ⟨#[102, 111, 114]⟩, ⟨#[116, 111]⟩, ⟨#[109, 97, 120]⟩, ⟨#[101, 109, 105, 116]⟩, ⟨#[97, 98, 111, 114, 116]⟩, ⟨#[110, 111, 116]⟩, ⟨#[97, 110, 100]⟩, ⟨#[111, 114]⟩, ⟨#[105, 110, 116]⟩, ⟨#[115, 116, 114]⟩, ⟨#[98, 111, 111, 108]⟩, ⟨#[116, 101, 120, 116]⟩, ⟨#[108, 101, 110]⟩, ⟨#[103, 101, 116, 105, 110, 116]⟩, ⟨#[103, 101, 116, 115, 116, 114]⟩, ⟨#[104, 97, 115]⟩, ⟨#[110, 111, 119]⟩, ⟨#[114, 97, 110, 100, 111, 109]⟩, ⟨#[110, 111, 100, 101]⟩]
theorem kw_has (s : Bytes) : hasK kwL s = kw s := by
  have e : ∀ a : Bytes, decide (a = s) = decide (s = a) := fun a => decide_eq_decide.2 ⟨Eq.symm, Eq.symm⟩
  simp only [hasK, kwL, anyL, kw, Bool.or_false, e, Bool.or_assoc]
theorem c_ref07_has (l : List Bytes) (k : Bytes) : APure Tryz.prog 255 [.slice (l.map sRow), S k] (Bo (hasK l k)) := by
  refine apure_introB Tryz.func255 rfl (by kernel_rfl) (by simp [Tryz.ntmps255]) rfl ?_
  intro E h hN hh hu hb
  rw [Tryz.ntmps255] at hN
  refine awp_of_wpC _ _ _ ?_
  simp [go_sem] at hb
  simp -dsimp [go_sem, hN]
  refine awp_loopN l.length (fun n => hasK (l.drop n) k = hasK l k) (fun n => ⟨[(0, .slice (l.map sRow)), (1, S k), (5, I n)], h⟩) (by simp) (Wk.mk (by simp [hh]) (by simp [go_sem]) (by simp [hu, hUnder_ext hu, go_sem]) (by simp [go_sem])) ?_
  intro n hn hI
  have hw := wrapS hn hb.1.1
  simp -dsimp [go_sem, hN]
  refine cnd (fun hc => ?_) (fun hc => ?_) <;> simp at hc
  · rw [drop_next hc, hasK, anyL] at hI
    simp -dsimp [go_sem, hN, hc]
    refine cnd (fun hg => ?_) (fun hg => ?_) <;> simp at hg
    · simp -dsimp [go_sem, hN]
      simp [← hI, hg]
    · simp -dsimp [go_sem, hN, hw]
      exact ⟨hc, by simpa [hg, hasK] using hI, (Wk.mk (by simp [hh]) (by simp [go_sem]) (by simp [hu, hUnder_ext hu, go_sem]) (by simp [go_sem]))⟩
  · rw [List.drop_eq_nil_of_le (by omega), hasK, anyL] at hI
    simp -dsimp [go_sem, hN, ← hI]
theorem c_ref07_Keywords : APure Tryz.prog 256 [] (.slice (kwL.map sRow)) := by
  refine apure_introB Tryz.func256 rfl (by kernel_rfl) (by simp [Tryz.ntmps256]) rfl ?_
  intro E h hN hh hu hb
  rw [Tryz.ntmps256] at hN
  refine awp_of_wpC _ _ _ ?_
  simp -dsimp [go_sem, hN]
  simp [kwL, sRow]
theorem c_ref07_IsKeyword (s : Bytes) : APure Tryz.prog 227 [S s] (Bo (kw s)) := by
  refine apure_introB Tryz.func227 rfl (by kernel_rfl) (by simp [Tryz.ntmps227]) rfl ?_
  intro E h hN hh hu hb
  rw [Tryz.ntmps227] at hN
  refine awp_of_wpC _ _ _ ?_
  simp -dsimp [go_sem, hN]
  refine tcall_pure c_ref07_Keywords ?_
  simp -dsimp [go_sem, hN]
  refine tcall_pure (c_ref07_has kwL s) ?_
  simp -dsimp [go_sem, hN, kw_has]
theorem c_ref07_letter (c : UInt8) : APure Tryz.prog 225 [U8 c.toNat] (Bo (ltr c.toNat)) := by
  refine apure_introB Tryz.func225 rfl (by kernel_rfl) (by simp [Tryz.ntmps225]) rfl ?_
  intro E h hN hh hu hb
  rw [Tryz.ntmps225] at hN
  refine awp_of_wpC _ _ _ ?_
  simp -dsimp [go_sem, hN, ltr]
theorem c_ref07_digit (c : UInt8) : APure Tryz.prog 270 [U8 c.toNat] (Bo (decide ((48 : Int) ≤ c.toNat) && decide ((c.toNat : Int) ≤ 57))) := by
  refine apure_introB Tryz.func270 rfl (by kernel_rfl) (by simp [Tryz.ntmps270]) rfl ?_
  intro E h hN hh hu hb
  rw [Tryz.ntmps270] at hN
  refine awp_of_wpC _ _ _ ?_
  simp -dsimp [go_sem, hN]
theorem c_ref07_part (c : UInt8) : APure Tryz.prog 254 [U8 c.toNat] (Bo (wordI c.toNat)) := by
  refine apure_introB Tryz.func254 rfl (by kernel_rfl) (by simp [Tryz.ntmps254]) rfl ?_
  intro E h hN hh hu hb
  rw [Tryz.ntmps254] at hN
  refine awp_of_wpC _ _ _ ?_
  simp -dsimp [go_sem, hN]
  refine tcall_pure (c_ref07_letter c) ?_
  simp -dsimp [go_sem, hN]
  refine tgcall_pure (c_ref07_digit c) (by simp) ?_
  simp -dsimp [go_sem, hN, wordI]
  grind
theorem c_ref07_word (s : Bytes) : APure Tryz.prog 226 [S s, I 0] (I (wordLen (bl s))) := by
  refine apure_introB Tryz.func226 rfl (by kernel_rfl) (by simp [Tryz.ntmps226]) rfl ?_
  intro E h hN hh hu hb
  rw [Tryz.ntmps226] at hN
  refine awp_of_wpC _ _ _ ?_
  simp [go_sem] at hb
  simp -dsimp [go_sem, hN]
  refine awp_loopN s.size (fun n => n + wordLen ((bl s).drop n) = wordLen (bl s)) (fun n => ⟨[(0, S s), (1, I n)], h⟩) (by simp) (Wk.mk (by simp [hh]) (by simp [go_sem]) (by simp [hu, hUnder_ext hu, go_sem]) (by simp [go_sem])) ?_
  intro n hn hI
  have hw := wrapS hn hb
  simp -dsimp [go_sem, hN]
  by_cases hc : n < s.size
  · rw [bdrop hc, wordLen] at hI
    simp -dsimp [go_sem, hN, hc]
    refine tgcall_pure (c_ref07_part (bAt s n)) (by simp [hc]) ?_
    simp -dsimp [go_sem, hN, hc]
    refine cnd (fun hg => ?_) (fun hg => ?_) <;> try simp at hg
    · simp -dsimp [go_sem, hN, hw]
      exact ⟨hc, by rw [if_pos hg] at hI; omega, (Wk.mk (by simp [hh]) (by simp [go_sem]) (by simp [hu, hUnder_ext hu, go_sem]) (by simp [go_sem]))⟩
    · simp -dsimp [go_sem, hN]
      rw [if_neg (by simp [hg])] at hI
      omega
  · rw [bend hc, wordLen] at hI
    simp -dsimp [go_sem, hN, hc]
    refine tgcall_if .top (by simp) (by simp) ?_
    simp -dsimp [go_sem, hN]
    omega
theorem c_ref07_IsName (s : Bytes) : APure Tryz.prog 177 [S s] (Bo (nameOk s)) := by
  refine apure_introB Tryz.func177 rfl (by kernel_rfl) (by simp [Tryz.ntmps177]) rfl ?_
  intro E h hN hh hu hb
  rw [Tryz.ntmps177] at hN
  refine awp_of_wpC _ _ _ ?_
  rcases sz_em s with rfl | h1
  · simp -dsimp [go_sem, hN, nameOk]
    refine tgcall_if .top (by simp) (by simp) ?_
    simp -dsimp [go_sem, hN]
    refine tgcall_if .top (by simp) (by simp) ?_
    simp -dsimp [go_sem, hN]
    refine tgcall_if .top (by simp) (by simp) ?_
    simp -dsimp [go_sem, hN, nameOk]
  · have h1' : 0 < s.size := by omega
    have he : ¬ s = em := by rintro rfl; simp at h1
    simp -dsimp [go_sem, hN, h1', he]
    refine tgcall_pure (c_ref07_letter _) (by simp) ?_
    simp -dsimp [go_sem, hN]
    refine tgcall_pure (c_ref07_word s) (by simp) ?_
    simp -dsimp [go_sem, hN]
    refine tgcall_pure (c_ref07_IsKeyword s) (by simp) ?_
    simp -dsimp [go_sem, hN, nameOk, he, h1]
theorem c_ref08_Arity (op : Int) : APure Tryz.prog 199 [I op] (I (arity op)) := by
  refine apure_introB Tryz.func199 rfl (by kernel_rfl) (by simp [Tryz.ntmps199]) rfl ?_
  intro E h hN hh hu hb
  rw [Tryz.ntmps199] at hN
  refine awp_of_wpC _ _ _ ?_
  by_cases h1 : op = 1
  · subst h1; simp -dsimp [go_sem, hN, arity]
  by_cases h2 : op = 2
  · subst h2; simp -dsimp [go_sem, hN, arity]
  by_cases h3 : op = 3
  · subst h3; simp -dsimp [go_sem, hN, arity]
  by_cases h25 : op = 25
  · subst h25; simp -dsimp [go_sem, hN, arity]
  by_cases h26 : op = 26
  · subst h26; simp -dsimp [go_sem, hN, arity]
  by_cases h27 : op = 27
  · subst h27; simp -dsimp [go_sem, hN, arity]
  by_cases h9 : op = 9
  · subst h9; simp -dsimp [go_sem, hN, arity]
  by_cases h18 : op = 18
  · subst h18; simp -dsimp [go_sem, hN, arity]
  by_cases h20 : op = 20
  · subst h20; simp -dsimp [go_sem, hN, arity]
  by_cases h21 : op = 21
  · subst h21; simp -dsimp [go_sem, hN, arity]
  by_cases h22 : op = 22
  · subst h22; simp -dsimp [go_sem, hN, arity]
  by_cases h23 : op = 23
  · subst h23; simp -dsimp [go_sem, hN, arity]
  by_cases h24 : op = 24
  · subst h24; simp -dsimp [go_sem, hN, arity]
  simp -dsimp [go_sem, hN, h1, h2, h3, h25, h26, h27, h9, h18, h20, h21, h22, h23, h24]
  refine cnd (fun hg => ?_) (fun hg => ?_) <;> simp at hg
  · simp -dsimp [go_sem, hN]
    unfold arity
    rw [if_neg (by omega), if_neg (by omega), if_neg (by omega)]
  · simp -dsimp [go_sem, hN]
    unfold arity
    rw [if_pos (by omega)]
theorem c_ref08_Absent (e : Ex) : APure Tryz.prog 230 [.agg e.x] (Bo (absE e)) := by
  refine apure_introB Tryz.func230 rfl (by kernel_rfl) (by simp [Tryz.ntmps230]) rfl ?_
  intro E h hN hh hu hb
  rw [Tryz.ntmps230] at hN
  refine awp_of_wpC _ _ _ ?_
  simp -dsimp [go_sem, hN, absE]
theorem c_ref08_Plain (s : Bytes) : APure Tryz.prog 129 [S s] (Bo (plainS s)) := by
  refine apure_introB Tryz.func129 rfl (by kernel_rfl) (by simp [Tryz.ntmps129]) rfl ?_
  intro E h hN hh hu hb
  rw [Tryz.ntmps129] at hN
  refine awp_of_wpC _ _ _ ?_
  simp [go_sem] at hb
  simp -dsimp [go_sem, hN]
  refine cnd (fun h0 => ?_) (fun h0 => ?_) <;> simp at h0
  · simp -dsimp [go_sem, hN]
    simp [plainS, Int.not_le.2 h0]
  simp -dsimp [go_sem, hN]
  refine awp_loopN s.size (fun n => allL okB ((bl s).drop n) = allL okB (bl s)) (fun n => ⟨[(0, S s), (3, I n)], h⟩) (by simp) (Wk.mk (by simp [hh]) (by simp [go_sem]) (by simp [hu, hUnder_ext hu, go_sem]) (by simp [go_sem])) ?_
  intro n hn hI
  have hw := wrapS hn hb
  simp -dsimp [go_sem, hN]
  refine cnd (fun hc => ?_) (fun hc => ?_) <;> simp at hc
  · rw [bdrop hc, allL] at hI
    simp -dsimp [go_sem, hN, hc]
    refine cnd (fun hg => ?_) (fun hg => ?_)
    · simp -dsimp [go_sem, hN]
      simp [plainS, ← hI, okB, hg]
    · simp -dsimp [go_sem, hN, hw]
      exact ⟨hc, by simpa [okB, hg] using hI, (Wk.mk (by simp [hh]) (by simp [go_sem]) (by simp [hu, hUnder_ext hu, go_sem]) (by simp [go_sem]))⟩
  · rw [bend (by omega), allL] at hI
    simp -dsimp [go_sem, hN, plainS, ← hI, h0]
theorem c_ref08_node (op n : Int) (s : Bytes) (args : List Ex) (d : Nat) : APure Tryz.prog 146 [.agg [I op, I n, S s, .slice (args.map Ex.c)], I d] (I (nodeErr op n s args.length d)) := by
  refine apure_introB Tryz.func146 rfl (by kernel_rfl) (by simp [Tryz.ntmps146]) rfl ?_
  intro E h hN hh hu hb
  rw [Tryz.ntmps146] at hN
  refine awp_of_wpC _ _ _ ?_
  simp -dsimp [go_sem, hN]
  refine tcall_pure (c_ref08_Arity _) ?_
  simp -dsimp [go_sem, hN]
  repeat refine ⟨by grind, ?_⟩
  refine cnd (fun h0 => ?_) (fun h0 => ?_)
  · simp -dsimp [go_sem, hN]
    simp at h0
    rw [nodeErr, if_pos (by grind)]
  have h0' : ¬ (arity op < 0 ∨ (op ≠ 1 ∧ n ≠ 0) ∨ (op ≠ 2 ∧ op ≠ 3 ∧ s ≠ em)) := by simp at h0; grind
  simp -dsimp [go_sem, hN]
  refine tgcall_pure (c_ref07_IsName s) (by simp) ?_
  simp -dsimp [go_sem, hN]
  refine cnd (fun h1 => ?_) (fun h1 => ?_)
  · simp -dsimp [go_sem, hN]
    simp at h1
    rw [nodeErr, if_neg h0', if_pos (by grind)]
  have h1' : ¬ (op = 3 ∧ nameOk s = false) := by simp at h1; grind
  simp -dsimp [go_sem, hN]
  refine awp_drawQ 21 mixed (by kernel_rfl) (by kernel_rfl) ?_
  simp -dsimp [go_sem, hN]
  refine tdcall (c_ref08_Plain s) (by simp) ?_
  simp -dsimp [go_sem, hN]
  refine ⟨by grind, ?_⟩
  refine tdcall (c_ref08_Arity op) (by simp) ?_
  simp -dsimp [go_sem, hN]
  repeat refine ⟨by grind, ?_⟩
  refine cnd (fun h2 => ?_) (fun h2 => ?_)
  · simp -dsimp [go_sem, hN]
    simp at h2
    rw [nodeErr, if_neg h0', if_neg h1', if_pos (by grind)]
  have h2' : ¬ ((op = 1 ∧ n < 0) ∨ (op = 2 ∧ plainS s = false) ∨ (args.length : Int) ≠ arity op) := by simp at h2; grind
  simp -dsimp [go_sem, hN]
  refine cnd (fun h3 => ?_) (fun h3 => ?_) <;> simp at h3
  · simp -dsimp [go_sem, hN]
    rw [nodeErr, if_neg h0', if_neg h1', if_neg h2', if_pos (by omega)]
  · simp -dsimp [go_sem, hN]
    rw [nodeErr, if_neg h0', if_neg h1', if_neg h2', if_neg (by omega)]
theorem c_ref08_valid (e : Ex) (d : Nat) : APure Tryz.prog 96 [.agg e.x, I d] (I (chkE e d)) := by
  refine apure_introB Tryz.func96 rfl (by kernel_rfl) (by simp [Tryz.ntmps96]) rfl ?_
  intro E h hN hh hu hb
  rw [Tryz.ntmps96] at hN
  refine awp_of_wpC _ _ _ ?_
  simp [go_sem] at hb
  simp -dsimp [go_sem, hN]
  refine tcall_pure (c_ref08_node _ _ _ _ _) ?_
  simp -dsimp [go_sem, hN]
  refine cnd (fun h0 => ?_) (fun h0 => ?_) <;> simp at h0
  · simp -dsimp [go_sem, hN]
    rw [chkE_eq, if_neg h0]
  have hd : d ≤ 12 := by
    unfold nodeErr at h0
    grind
  simp -dsimp [go_sem, hN]
  refine awp_loopN e.args.length (fun n => chkL (e.args.drop n) (d + 1) = chkL e.args (d + 1)) (fun n => ⟨[(1, I d), (2, .ptr h.length 0), (6, I n)], h ++ [.cells e.x]⟩) (by simp) (Wk.mk (by simp [hh]) (by simp [go_sem]) (by simp [hu, hUnder_ext hu, go_sem]) (by simp [go_sem])) ?_
  intro n hn hI
  have hw := wrapS hn hb.2.1
  have hw2 : IntKind.i64.wrap ((d : Int) + 1) = ((d + 1 : Nat) : Int) := by rw [wrapI (by omega) (by omega)]; rfl
  simp -dsimp [go_sem, hN]
  refine cnd (fun hc => ?_) (fun hc => ?_) <;> simp at hc
  · rw [drop_next hc, chkL] at hI
    simp -dsimp [go_sem, hN, hc, hw2]
    have hlt : SizeOf.sizeOf e.args[n] < SizeOf.sizeOf e := Ex.arg_lt (List.getElem_mem hc)
    refine tcall_pure (c_ref08_valid e.args[n] (d + 1)) ?_
    simp -dsimp [go_sem, hN]
    refine cnd (fun hg => ?_) (fun hg => ?_) <;> simp at hg
    · simp -dsimp [go_sem, hN]
      rw [chkE_eq e, if_pos h0, ← hI, if_neg hg]
    · simp -dsimp [go_sem, hN, hw]
      exact ⟨hc, by simpa [hg] using hI, (Wk.mk (by simp [hh]) (by simp [go_sem]) (by simp [hu, hUnder_ext hu, go_sem]) (by simp [go_sem]))⟩
  · rw [List.drop_eq_nil_of_le (by omega), chkL] at hI
    simp -dsimp [go_sem, hN]
    rw [chkE_eq e, if_pos h0, ← hI]
termination_by SizeOf.sizeOf e
theorem c_ref08_ValidExpr (e : Ex) : APure Tryz.prog 54 [.agg e.x] (I (chkE e 1)) := by
  refine apure_introB Tryz.func54 rfl (by kernel_rfl) (by simp [Tryz.ntmps54]) rfl ?_
  intro E h hN hh hu hb
  rw [Tryz.ntmps54] at hN
  refine awp_of_wpC _ _ _ ?_
  simp -dsimp [go_sem, hN]
  refine tcall_pure (c_ref08_valid e 1) ?_
  simp -dsimp [go_sem, hN]
def usesR (op : Int) : Uses :=
  if op = 1 ∨ op = 2 then ⟨true, true, false, false, false, false⟩
  else if op = 3 then ⟨false, true, true, false, false, false⟩
  else if op = 4 ∨ op = 7 then ⟨false, true, false, false, false, false⟩
  else if op = 5 then ⟨false, true, false, false, true, true⟩
  else if op = 6 then ⟨true, true, true, true, true, false⟩
  else ⟨false, false, false, true, false, false⟩
theorem c_ref08_uses (op : Int) : APure Tryz.prog 229 [I op] (.tuple [Bo (usesR op).name, Bo (usesR op).max, Bo (usesR op).a, Bo (usesR op).b, Bo (usesR op).body, Bo (usesR op).other]) := by
  refine apure_introB Tryz.func229 rfl (by kernel_rfl) (by simp [Tryz.ntmps229]) rfl ?_
  intro E h hN hh hu hb
  rw [Tryz.ntmps229] at hN
  refine awp_of_wpC _ _ _ ?_
  by_cases h1 : op = 1
  · subst h1; simp -dsimp [go_sem, hN, usesR]
  by_cases h2 : op = 2
  · subst h2; simp -dsimp [go_sem, hN, usesR]
  by_cases h3 : op = 3
  · subst h3; simp -dsimp [go_sem, hN, usesR]
  by_cases h4 : op = 4
  · subst h4; simp -dsimp [go_sem, hN, usesR]
  by_cases h7 : op = 7
  · subst h7; simp -dsimp [go_sem, hN, usesR]
  by_cases h5 : op = 5
  · subst h5; simp -dsimp [go_sem, hN, usesR]
  by_cases h6 : op = 6
  · subst h6; simp -dsimp [go_sem, hN, usesR]
  simp -dsimp [go_sem, hN, usesR, h1, h2, h3, h4, h5, h6, h7]
end Go.Proofs.YtcmbmfmpelnimaaGreatDoor
