/- Part 22 of a proof: W44, W45, R1, W21, W22 -/
import Derived.Shelf.Small.Strs
import Derived.Shelf.Strconv.Itoa4
import Derived.Lib.ItoaLen
import Derived.Test.YtcmbmfmpelnimaaGreatDoorQ09
import Derived.Test.YtcmbmfmpelnimaaGreatDoorQ11
import Derived.Test.YtcmbmfmpelnimaaGreatDoorQ12
import Derived.Test.YtcmbmfmpelnimaaGreatDoorQ13
import Derived.Test.YtcmbmfmpelnimaaGreatDoorQ15
import Derived.Test.YtcmbmfmpelnimaaGreatDoorQ17
import Derived.Test.YtcmbmfmpelnimaaGreatDoorQ19
import Derived.Test.YtcmbmfmpelnimaaGreatDoorQ21
set_option linter.all false

set_option maxRecDepth 4000
set_option maxHeartbeats 2000000
namespace Go.Proofs.YtcmbmfmpelnimaaGreatDoor
open Go Go.Abs Go.Cw
theorem c_ref01_Add (a b : Int) (ha : i64 a) (hb2 : i64 b) : APure Tryz.prog 240 [I a, I b] (.tuple [I (numAdd a b).1, I (numAdd a b).2]) := by
  have hr := add_ref ha hb2
  refine apure_introB Tryz.func240 rfl (by kernel_rfl) (by simp [Tryz.ntmps240]) rfl ?_
  intro E h hN hh hu hb
  rw [Tryz.ntmps240] at hN
  refine awp_of_wpC _ _ _ ?_
  simp -dsimp [go_sem, hN]
  repeat refine ⟨by grind, ?_⟩
  refine cnd (fun h0 => ?_) (fun h0 => ?_)
  · have h1 : (0 < b ∧ W64 (a + b) < a) ∨ (b < 0 ∧ a < W64 (a + b)) := hr.1 (by simp at h0; grind)
    simp -dsimp [go_sem, hN, numAdd, h1]
  · have h1 : ¬ ((0 < b ∧ W64 (a + b) < a) ∨ (b < 0 ∧ a < W64 (a + b))) := fun g => by have := hr.2 g; simp at h0; grind
    simp -dsimp [go_sem, hN, numAdd, h1]
theorem c_ref01_Sub (a b : Int) (ha : i64 a) (hb2 : i64 b) : APure Tryz.prog 187 [I a, I b] (.tuple [I (numSub a b).1, I (numSub a b).2]) := by
  have hr := sub_ref ha hb2
  refine apure_introB Tryz.func187 rfl (by kernel_rfl) (by simp [Tryz.ntmps187]) rfl ?_
  intro E h hN hh hu hb
  rw [Tryz.ntmps187] at hN
  refine awp_of_wpC _ _ _ ?_
  simp -dsimp [go_sem, hN]
  repeat refine ⟨by grind, ?_⟩
  refine cnd (fun h0 => ?_) (fun h0 => ?_)
  · have h1 : (0 < b ∧ a < W64 (a - b)) ∨ (b < 0 ∧ W64 (a - b) < a) := hr.1 (by simp at h0; grind)
    simp -dsimp [go_sem, hN, numSub, h1]
  · have h1 : ¬ ((0 < b ∧ a < W64 (a - b)) ∨ (b < 0 ∧ W64 (a - b) < a)) := fun g => by have := hr.2 g; simp at h0; grind
    simp -dsimp [go_sem, hN, numSub, h1]
theorem c_ref01_Neg (a : Int) (ha : i64 a) : APure Tryz.prog 204 [I a] (.tuple [I (numNeg a).1, I (numNeg a).2]) := by
  rw [← neg_ref ha]
  refine apure_introB Tryz.func204 rfl (by kernel_rfl) (by simp [Tryz.ntmps204]) rfl ?_
  intro E h hN hh hu hb
  rw [Tryz.ntmps204] at hN
  refine awp_of_wpC _ _ _ ?_
  simp -dsimp [go_sem, hN]
  refine tcall_pure (c_ref01_Sub 0 a ⟨by decide, by decide⟩ ha) ?_
  simp -dsimp [go_sem, hN]
theorem c_ref01_size (a : Int) (ha : i64 a) : APure Tryz.prog 244 [I a] (.val (.int .u64 (absI a))) := by
  refine apure_introB Tryz.func244 rfl (by kernel_rfl) (by simp [Tryz.ntmps244]) rfl ?_
  intro E h hN hh hu hb
  rw [Tryz.ntmps244] at hN
  refine awp_of_wpC _ _ _ ?_
  simp -dsimp [go_sem, hN]
  refine cnd (fun h0 => ?_) (fun h0 => ?_) <;> simp at h0
  · simp -dsimp [go_sem, hN]
    have hz := U64_abs ha
    rw [Int.zero_sub] at hz
    rw [hz, if_pos h0]
    simp [absI, h0]
  · simp -dsimp [go_sem, hN]
    rw [U64_in h0 (by have := ha.2; omega)]
    simp [absI, Int.not_lt.2 h0]
theorem tdiv_rng {L m : Int} (hL : 0 ≤ L) (hm : 0 < m) : 0 ≤ L.tdiv m ∧ L.tdiv m ≤ L := by
  rw [Int.tdiv_eq_ediv_of_nonneg hL]
  exact ⟨Int.ediv_nonneg hL (Int.le_of_lt hm), Int.ediv_le_self m hL⟩
theorem c_ref01_Mul (a b : Int) (ha : i64 a) (hb2 : i64 b) : APure Tryz.prog 241 [I a, I b] (.tuple [I (numMul a b).1, I (numMul a b).2]) := by
  refine apure_introB Tryz.func241 rfl (by kernel_rfl) (by simp [Tryz.ntmps241]) rfl ?_
  intro E h hN hh hu hb
  rw [Tryz.ntmps241] at hN
  refine awp_of_wpC _ _ _ ?_
  simp -dsimp [go_sem, hN]
  repeat refine ⟨by grind, ?_⟩
  refine cnd (fun h0 => ?_) (fun h0 => ?_)
  · have h1 : a = 0 ∨ b = 0 := by simpa using h0
    simp -dsimp [go_sem, hN, numMul, h1]
  have h1 : a ≠ 0 ∧ b ≠ 0 := by simpa using h0
  obtain ⟨s1, s2⟩ := numMul_spec ha hb2 h1.1 h1.2
  have hbp : absI b ≠ 0 := by unfold absI; split <;> omega
  simp -dsimp [go_sem, hN]
  have hbp' : 0 < absI b := by unfold absI; split <;> omega
  refine cnd (fun hs => ?_) (fun hs => ?_)
  · have hs' : decide (a < 0) ≠ decide (b < 0) := by simpa using hs
    have hm := mul_ref ha hb2 h1.1 h1.2 9223372036854775808 (by rw [if_pos hs'])
    have ht := tdiv_rng (L := 9223372036854775808) (by decide) hbp'
    simp -dsimp [go_sem, hN]
    refine tcall_pure (c_ref01_size a ha) ?_
    simp -dsimp [go_sem, hN]
    refine tcall_pure (c_ref01_size b hb2) ?_
    simp -dsimp [go_sem, hN, hbp]
    rw [U64_in ht.1 (by omega)]
    refine cnd (fun h2 => ?_) (fun h2 => ?_) <;> simp at h2
    · have e := s2 (hm.1 h2)
      simp -dsimp [go_sem, hN, e]
    · have hi : i64 (a * b) := by
        by_cases hi : i64 (a * b)
        · exact hi
        · exact absurd (hm.2 hi) (by omega)
      have e := s1 hi
      have hwr : IntKind.i64.wrap (a * b) = a * b := wrapI hi.1 (by have := hi.2; omega)
      simp -dsimp [go_sem, hN, e, hwr]
  · have hs' : ¬ (decide (a < 0) ≠ decide (b < 0)) := by simpa using hs
    have hm := mul_ref ha hb2 h1.1 h1.2 9223372036854775807 (by rw [if_neg hs'])
    have ht := tdiv_rng (L := 9223372036854775807) (by decide) hbp'
    simp -dsimp [go_sem, hN]
    refine tcall_pure (c_ref01_size a ha) ?_
    simp -dsimp [go_sem, hN]
    refine tcall_pure (c_ref01_size b hb2) ?_
    simp -dsimp [go_sem, hN, hbp]
    rw [U64_in ht.1 (by omega)]
    refine cnd (fun h2 => ?_) (fun h2 => ?_) <;> simp at h2
    · have e := s2 (hm.1 h2)
      simp -dsimp [go_sem, hN, e]
    · have hi : i64 (a * b) := by
        by_cases hi : i64 (a * b)
        · exact hi
        · exact absurd (hm.2 hi) (by omega)
      have e := s1 hi
      have hwr : IntKind.i64.wrap (a * b) = a * b := wrapI hi.1 (by have := hi.2; omega)
      simp -dsimp [go_sem, hN, e, hwr]
theorem c_ref01_Div (a b : Int) (ha : i64 a) (hb2 : i64 b) : APure Tryz.prog 242 [I a, I b] (.tuple [I (numDiv a b).1, I (numDiv a b).2]) := by
  refine apure_introB Tryz.func242 rfl (by kernel_rfl) (by simp [Tryz.ntmps242]) rfl ?_
  intro E h hN hh hu hb
  rw [Tryz.ntmps242] at hN
  refine awp_of_wpC _ _ _ ?_
  simp -dsimp [go_sem, hN]
  refine cnd (fun h0 => ?_) (fun h0 => ?_) <;> simp at h0 <;> simp -dsimp [go_sem, hN]
  · grind [numDiv]
  refine cnd (fun h1 => ?_) (fun h1 => ?_) <;> simp at h1 <;> simp -dsimp [go_sem, hN]
  · refine tcall_pure (c_ref01_Neg a ha) ?_
    simp -dsimp [go_sem, hN]
    grind [numDiv]
  repeat refine ⟨by grind, ?_⟩
  refine cnd (fun h3 => ?_) (fun h3 => ?_) <;> simp at h3 <;> simp -dsimp [go_sem, hN] <;> grind [numDiv]
theorem c_ref01_Mod (a b : Int) : APure Tryz.prog 243 [I a, I b] (.tuple [I (numMod a b).1, I (numMod a b).2]) := by
  refine apure_introB Tryz.func243 rfl (by kernel_rfl) (by simp [Tryz.ntmps243]) rfl ?_
  intro E h hN hh hu hb
  rw [Tryz.ntmps243] at hN
  refine awp_of_wpC _ _ _ ?_
  simp -dsimp [go_sem, hN]
  refine cnd (fun h0 => ?_) (fun h0 => ?_) <;> simp at h0 <;> simp -dsimp [go_sem, hN]
  · grind [numMod]
  refine cnd (fun h1 => ?_) (fun h1 => ?_) <;> simp at h1 <;> simp -dsimp [go_sem, hN]
  · grind [numMod]
  repeat refine ⟨by grind, ?_⟩
  refine cnd (fun h3 => ?_) (fun h3 => ?_) <;> simp at h3 <;> simp -dsimp [go_sem, hN] <;> grind [numMod]
theorem itoa_abs (n : Int) : Lib.itoa n = if n < 0 then 45 :: Lib.decDigits (absI n).toNat else Lib.decDigits (absI n).toNat := by
  unfold Lib.itoa absI
  split
  · congr 2; omega
  · rfl
theorem c_ref01_Format (n : Int) (hn : i64 n) : APure Tryz.prog 205 [I n] (S (fmtI n)) := by
  refine apure_introB Tryz.func205 rfl (by kernel_rfl) (by simp [Tryz.ntmps205]) rfl ?_
  intro E h hN hh hu hb
  rw [Tryz.ntmps205] at hN
  refine awp_of_wpC _ _ _ ?_
  simp -dsimp [go_sem, hN]
  refine tcall_pure (c_ref01_size n hn) ?_
  simp -dsimp [go_sem, hN]
  obtain ⟨U, hU⟩ : ∃ U : Nat, absI n = U := ⟨(absI n).toNat, by unfold absI; split <;> omega⟩
  have hUl : (Lib.decDigits U).length ≤ 21 := by
    have h1 := Lib.itoa_length_le n hn.1 hn.2
    rw [itoa_abs, hU] at h1
    split at h1
    · simp at h1; omega
    · simpa using h1
  have hU64 : U ≤ 18446744073709551615 := by
    have := hn.1
    have := hn.2
    have : absI n ≤ 9223372036854775808 := by unfold absI; split <;> omega
    omega
  refine awp_loopM (α := Nat × Bytes) (fun x => digL x.1 x.2 = Lib.decDigits U ∧ x.1 ≤ 18446744073709551615) (fun x => ⟨[(0, I n), (3, .val (.int .u64 x.1)), (4, S x.2)], h⟩) (fun x => x.1 + if x.2 = em then 1 else 0) (U, em) ⟨by simp [digL, bl], hU64⟩ (Wk.mk (by simp [hh]) (by simp [go_sem]) (by simp [hu, hUnder_ext hu, go_sem]) (by simp [go_sem, hU])) ?_
  rintro ⟨u, s⟩ ⟨hI, hle⟩
  dsimp only at hI hle
  have hsl := digL_len u s
  rw [hI] at hsl
  simp -dsimp [go_sem, hN]
  have htm : ((u : Int).tmod 10) = ((u % 10 : Nat) : Int) := rfl
  have hd : IntKind.u8.wrap (IntKind.u64.wrap (48 + (u : Int).tmod 10)) = ((48 + u % 10 : Nat) : Int) := by
    rw [htm, U64_in (by omega) (by omega)]
    simp only [IntKind.wrap, IntKind.bits, IntKind.signed]
    simp
    omega
  have hq : IntKind.u64.wrap ((u : Int) / 10) = ((u / 10 : Nat) : Int) := by
    rw [U64_in (by omega) (by omega)]
    simp
  refine cnd (fun hc => ?_) (fun hc => ?_)
  · have hc' : 0 < u ∨ s = em := by simpa [em] using hc
    have hne : dig u ++ s ≠ em := fun e => by
      have := congrArg ByteArray.size e
      rw [ByteArray.size_append] at this
      have h1 : (dig u).size = 1 := rfl
      have h2 : ByteArray.size em = 0 := rfl
      omega
    have hdg : ({ data := #[UInt8.ofNat (48 + u % 10)] } : ByteArray) = dig u := rfl
    simp -dsimp [go_sem, hN, hd, hq]
    refine ⟨?_, by omega, u / 10, dig u ++ s, ⟨by rw [digL_step hc']; exact hI, by omega⟩, ?_, ?_⟩
    · simp [byteSl, go_sem]
    · rw [if_neg hne]
      rcases hc' with h1 | h1
      · omega
      · rw [if_pos h1]; omega
    · have hx : ({ data := #[UInt8.ofNat (48 + (u : Int) % 10).toNat] } : ByteArray) = dig u := by
        unfold dig
        have : (48 + (u : Int) % 10).toNat = 48 + u % 10 := by omega
        rw [this]
      exact Wk.mk (by simp [hh]) (by simp [go_sem]) (by simp [hu, hUnder_ext hu, go_sem]) (by simp [go_sem, hx])
  · have hc' : u = 0 ∧ s ≠ em := by simp at hc; exact ⟨by omega, by simpa [em] using hc.2⟩
    obtain ⟨rfl, hne⟩ := hc'
    rw [digL_end hne] at hI
    simp -dsimp [go_sem, hN]
    refine cnd (fun h2 => ?_) (fun h2 => ?_) <;> simp at h2
    · simp -dsimp [go_sem, hN]
      refine ⟨by omega, ?_⟩
      refine bl_inj ?_
      have e1 : bl (fmtI n) = Lib.itoa n := by simp [bl, fmtI]
      have e2 : bl (({ data := #[45] } : ByteArray) ++ s) = 45 :: bl s := by simp [bl]
      rw [e1, e2, itoa_abs, if_pos h2, hI, hU]
      rfl
    · simp -dsimp [go_sem, hN]
      refine bl_inj ?_
      have e1 : bl (fmtI n) = Lib.itoa n := by simp [bl, fmtI]
      rw [e1, itoa_abs, if_neg (by omega), hI, hU]
      rfl
end Go.Proofs.YtcmbmfmpelnimaaGreatDoor

set_option maxRecDepth 4000
set_option maxHeartbeats 2000000
namespace Go.Proofs.YtcmbmfmpelnimaaGreatDoor
open Go Go.Abs Go.Cw
section
attribute [local go_sem] RM.c
variable (C : Cfg)
theorem c_ref15_Abort (m : RM) (c : Int) : APure Tryz.prog 132 [.agg (m.c C), I c] (.agg ((m.ab c).c C)) := by
  refine apure_introB Tryz.func132 rfl (by kernel_rfl) (by simp [Tryz.ntmps132]) rfl ?_
  intro E h hN hh hu hb
  rw [Tryz.ntmps132] at hN
  refine awp_of_wpC _ _ _ ?_
  simp -dsimp [go_sem, hN]
  try simp [RM.ab]
theorem c_ref15_restart (m : RM) (k : Bytes) : APure Tryz.prog 185 [.agg (m.c C), S k] (.agg ((m.rst k).c C)) := by
  refine apure_introB Tryz.func185 rfl (by kernel_rfl) (by simp [Tryz.ntmps185]) rfl ?_
  intro E h hN hh hu hb
  rw [Tryz.ntmps185] at hN
  refine awp_of_wpC _ _ _ ?_
  simp -dsimp [go_sem, hN]
  try simp [RM.rst]
theorem c_ref15_running (m : RM) : APure Tryz.prog 46 [.agg (m.c C)] (Bo (decide (m.st = 0))) := by
  refine apure_introB Tryz.func46 rfl (by kernel_rfl) (by simp [Tryz.ntmps46]) rfl ?_
  intro E h hN hh hu hb
  rw [Tryz.ntmps46] at hN
  refine awp_of_wpC _ _ _ ?_
  simp -dsimp [go_sem, hN]
theorem c_ref15_with (l : List Bytes) (k : Bytes) (hB : l.length + 1 ≤ 68719476736) : APure Tryz.prog 186 [.slice (l.map sRow), S k] (.slice ((withS l k).map sRow)) := by
  have hle := posS_le k l
  refine apure_introB Tryz.func186 rfl (by kernel_rfl) (by simp [Tryz.ntmps186]) rfl ?_
  intro E h hN hh hu hb
  rw [Tryz.ntmps186] at hN
  refine awp_of_wpC _ _ _ ?_
  simp [go_sem] at hb
  simp -dsimp [go_sem, hN]
  refine awp_loopN l.length (fun n => n + posS k (l.drop n) = posS k l) (fun n => ⟨[(0, .slice (l.map sRow)), (1, S k), (5, I n)], h⟩) (by simp) (Wk.mk (by simp [hh]) (by simp [go_sem]) (by simp [hu, hUnder_ext hu, go_sem]) (by simp [go_sem])) ?_
  intro n hn hI
  have hw := wrapS hn (show _ ≤ 68719476736 by omega)
  simp -dsimp [go_sem, hN]
  by_cases hc : n < l.length
  · rw [drop_next hc, posS] at hI
    simp -dsimp [go_sem, hN, hc]
    refine cnd (fun hg => ?_) (fun hg => ?_) <;> try simp at hg
    · simp -dsimp [go_sem, hN, hw]
      rw [if_pos hg] at hI
      exact ⟨hc, by omega, (Wk.mk (by simp [hh]) (by simp [go_sem]) (by simp [hu, hUnder_ext hu, go_sem]) (by simp [go_sem]))⟩
    · rw [if_neg (by simp [hg])] at hI
      have hp : posS k l = n := by omega
      simp -dsimp [go_sem, hN, hc]
      refine cnd (fun hk => ?_) (fun hk => ?_) <;> try simp at hk
      · simp -dsimp [go_sem, hN]
        unfold withS
        rw [hp, if_pos (by rw [List.getElem?_eq_getElem hc, hk])]
      · simp -dsimp [go_sem, hN]
        refine ⟨by omega, by omega, by omega, by omega, by omega, ?_⟩
        rw [if_pos (by omega)]
        unfold withS
        rw [hp, if_neg (by rw [List.getElem?_eq_getElem hc]; simpa using hk)]
        simp [sRow, List.map_take, List.map_drop]
  · rw [List.drop_eq_nil_of_le (by omega), posS] at hI
    have hp : posS k l = n := by omega
    have hnone : l[n]? = none := List.getElem?_eq_none (by omega)
    simp -dsimp [go_sem, hN, hc]
    refine ⟨by omega, by omega, by omega, by omega, by omega, ?_⟩
    rw [if_pos (by omega)]
    unfold withS
    rw [hp, if_neg (by simp [hnone])]
    simp [sRow, List.map_take, List.map_drop]
theorem c_ref15_set (l : List Pr) (p : Pr) (hB : l.length + 1 ≤ 68719476736) : APure Tryz.prog 44 [.slice (l.map Pr.c), .agg p.c] (.slice ((setR l p).map Pr.c)) := by
  have hle := posP_le p.key l
  refine apure_introB Tryz.func44 rfl (by kernel_rfl) (by simp [Tryz.ntmps44]) rfl ?_
  intro E h hN hh hu hb
  rw [Tryz.ntmps44] at hN
  refine awp_of_wpC _ _ _ ?_
  simp [go_sem] at hb
  simp -dsimp [go_sem, hN]
  refine awp_loopN l.length (fun n => n + posP p.key (l.drop n) = posP p.key l) (fun n => ⟨[(0, .slice (l.map Pr.c)), (3, P0 h.length), (5, I n)], h ++ [.cells p.c]⟩) (by simp) (Wk.mk (by simp [hh]) (by simp [go_sem]) (by simp [hu, hUnder_ext hu, go_sem]) (by simp [go_sem])) ?_
  intro n hn hI
  have hw := wrapS hn (show _ ≤ 68719476736 by omega)
  simp -dsimp [go_sem, hN]
  refine awp_drawQ 12 mixed (by kernel_rfl) (by kernel_rfl) ?_
  by_cases hc : n < l.length
  · rw [drop_next hc, posP] at hI
    simp -dsimp [go_sem, hN, hc]
    refine cnd (fun hg => ?_) (fun hg => ?_) <;> try simp at hg
    · simp -dsimp [go_sem, hN, hw]
      rw [if_pos hg] at hI
      exact ⟨hc, by omega, (Wk.mk (by simp [hh]) (by simp [go_sem]) (by simp [hu, hUnder_ext hu, go_sem]) (by simp [go_sem]))⟩
    · rw [if_neg (by simp [hg])] at hI
      have hp : posP p.key l = n := by omega
      simp -dsimp [go_sem, hN]
      refine awp_drawQ 12 mixed (by kernel_rfl) (by kernel_rfl) ?_
      simp -dsimp [go_sem, hN, hc]
      refine cnd (fun hk => ?_) (fun hk => ?_) <;> try simp at hk
      · have e : setR l p = l.take n ++ p :: l.drop (n + 1) := by
          unfold setR restP
          rw [hp, if_pos (by simp [List.getElem?_eq_getElem hc, hk])]
        simp -dsimp [go_sem, hN, hw]
        refine ⟨by omega, by omega, by omega, by omega, by omega, ?_⟩
        rw [if_pos (by omega), e]
        simp [List.map_take, List.map_drop, Pr.c, V.c]
      · have e : setR l p = l.take n ++ p :: l.drop n := by
          unfold setR restP
          rw [hp, if_neg (by simp [List.getElem?_eq_getElem hc]; simpa using hk)]
        simp -dsimp [go_sem, hN]
        refine ⟨by omega, by omega, by omega, by omega, by omega, ?_⟩
        rw [if_pos (by omega), e]
        simp [List.map_take, List.map_drop, Pr.c, V.c]
  · rw [List.drop_eq_nil_of_le (by omega), posP] at hI
    have hp : posP p.key l = n := by omega
    have hnone : l[n]? = none := List.getElem?_eq_none (by omega)
    have e : setR l p = l.take n ++ p :: l.drop n := by
      unfold setR restP
      rw [hp, if_neg (by simp [hnone])]
    simp -dsimp [go_sem, hN, hc]
    refine awp_drawQ 12 mixed (by kernel_rfl) (by kernel_rfl) ?_
    simp -dsimp [go_sem, hN, hc]
    refine ⟨by omega, by omega, by omega, by omega, by omega, ?_⟩
    rw [if_pos (by omega), e]
    simp [List.map_take, List.map_drop, Pr.c, V.c]
theorem c_ref15_Fetch (m : RM) (k : Bytes) (hB : m.reads.length + 1 ≤ 68719476736) : APure Tryz.prog 206 [.agg (m.c C), S k] (.tuple [.agg (fetchR C m k).1.c, .agg ((fetchR C m k).2.c C)]) := by
  refine apure_introB Tryz.func206 rfl (by kernel_rfl) (by simp [Tryz.ntmps206]) rfl ?_
  intro E h hN hh hu hb
  rw [Tryz.ntmps206] at hN
  refine awp_of_wpC _ _ _ ?_
  simp -dsimp [go_sem, hN]
  refine tcall_pure (c_ref04_Valid k) ?_
  simp -dsimp [go_sem, hN]
  refine cnd (fun h0 => ?_) (fun h0 => ?_) <;> try simp at h0
  · have e : fetchR C m k = (V.nil, m.ab 1004) := by unfold fetchR; rw [if_pos h0]
    rw [e]
    simp -dsimp [go_sem, hN]
    refine tcall_pure (c_ref15_Abort C m 1004) ?_
    simp -dsimp [go_sem, hN]
  simp -dsimp [go_sem, hN]
  refine tcall_pure (c_ref15_Has m.puts k) ?_
  simp -dsimp [go_sem, hN]
  refine cnd (fun h1 => ?_) (fun h1 => ?_) <;> try simp at h1
  · have e : fetchR C m k = (getP m.own k, m) := by unfold fetchR; rw [if_neg (by simp [h0]), if_pos h1]
    rw [e]
    simp -dsimp [go_sem, hN]
    refine awp_drawG 6 mixed (by kernel_rfl) ?_
    simp -dsimp [go_sem, hN]
    refine tdcall (c_ref06_Get m.own k) (by simp) ?_
    simp -dsimp [go_sem, hN]
    simp [sepD, List.zipIdx]
  simp -dsimp [go_sem, hN]
  refine tgcall_pure (c_ref15_Has C.rd k) (by simp) ?_
  simp -dsimp [go_sem, hN]
  refine cnd (fun h2 => ?_) (fun h2 => ?_)
  · have e : fetchR C m k = (V.nil, m.rst k) := by unfold fetchR; rw [if_neg (by simp [h0]), if_neg (by simp [h1]), if_pos (by simpa using h2)]
    rw [e]
    simp -dsimp [go_sem, hN]
    refine tcall_pure (c_ref15_restart C m k) ?_
    simp -dsimp [go_sem, hN]
  · have e : fetchR C m k = (getP C.state k, { m with reads := withS m.reads k }) := by unfold fetchR; rw [if_neg (by simp [h0]), if_neg (by simp [h1]), if_neg (by simpa using h2)]
    rw [e]
    simp -dsimp [go_sem, hN]
    refine tcall_pure (c_ref15_with m.reads k hB) ?_
    simp -dsimp [go_sem, hN]
    refine awp_drawG 6 mixed (by kernel_rfl) ?_
    simp -dsimp [go_sem, hN]
    refine tdcall (c_ref06_Get C.state k) (by simp) ?_
    simp -dsimp [go_sem, hN]
    simp [sepD, List.zipIdx]
theorem c_ref15_Store (m : RM) (k : Bytes) (v : V) (hB : m.puts.length + 1 ≤ 68719476736) (hB2 : m.own.length + 1 ≤ 68719476736) : APure Tryz.prog 133 [.agg (m.c C), S k, .agg v.c] (.agg ((storeR C m k v).c C)) := by
  refine apure_introB Tryz.func133 rfl (by kernel_rfl) (by simp [Tryz.ntmps133]) rfl ?_
  intro E h hN hh hu hb
  rw [Tryz.ntmps133] at hN
  refine awp_of_wpC _ _ _ ?_
  simp -dsimp [go_sem, hN]
  refine tcall_pure (c_ref04_Valid k) ?_
  simp -dsimp [go_sem, hN]
  refine cnd (fun h0 => ?_) (fun h0 => ?_) <;> try simp at h0
  · have e : storeR C m k v = m.ab 1004 := by unfold storeR; rw [if_pos h0]
    rw [e]
    simp -dsimp [go_sem, hN]
    refine tcall_pure (c_ref15_Abort C m 1004) ?_
    simp -dsimp [go_sem, hN]
  simp -dsimp [go_sem, hN]
  refine tgcall_pure (c_ref15_Has C.wr k) (by simp) ?_
  simp -dsimp [go_sem, hN]
  refine cnd (fun h2 => ?_) (fun h2 => ?_)
  · have e : storeR C m k v = m.rst k := by unfold storeR; rw [if_neg (by simp [h0]), if_pos (by simpa using h2)]
    rw [e]
    simp -dsimp [go_sem, hN]
    refine tcall_pure (c_ref15_restart C m k) ?_
    simp -dsimp [go_sem, hN]
  · have e : storeR C m k v = { m with puts := withS m.puts k, own := setR m.own ⟨k, v⟩ } := by unfold storeR; rw [if_neg (by simp [h0]), if_neg (by simpa using h2)]
    rw [e]
    simp -dsimp [go_sem, hN]
    refine tcall_pure (c_ref15_with m.puts k hB) ?_
    simp -dsimp [go_sem, hN]
    refine tcall_pure (c_ref15_set m.own ⟨k, v⟩ hB2) ?_
    simp -dsimp [go_sem, hN]
theorem c_ref15_Emit (m : RM) (v : V) (hB : m.out.length + 1 ≤ 68719476736) : APure Tryz.prog 134 [.agg (m.c C), .agg v.c] (.agg ((emitR m v).c C)) := by
  refine apure_introB Tryz.func134 rfl (by kernel_rfl) (by simp [Tryz.ntmps134]) rfl ?_
  intro E h hN hh hu hb
  rw [Tryz.ntmps134] at hN
  refine awp_of_wpC _ _ _ ?_
  simp -dsimp [go_sem, hN]
  refine cnd (fun h0 => ?_) (fun h0 => ?_) <;> simp at h0
  · have e : emitR m v = m.ab 1007 := by unfold emitR; rw [if_pos (by omega)]
    rw [e]
    simp -dsimp [go_sem, hN]
    refine tcall_pure (c_ref15_Abort C m 1007) ?_
    simp -dsimp [go_sem, hN]
  · have e : emitR m v = { m with out := m.out ++ [v] } := by unfold emitR; rw [if_neg (by omega)]
    rw [e]
    simp -dsimp [go_sem, hN]
    exact ⟨by omega, by omega⟩
theorem c_ref15_Tick (m : RM) : APure Tryz.prog 87 [.agg (m.c C)] (.agg ((tickR m).c C)) := by
  refine apure_introB Tryz.func87 rfl (by kernel_rfl) (by simp [Tryz.ntmps87]) rfl ?_
  intro E h hN hh hu hb
  rw [Tryz.ntmps87] at hN
  refine awp_of_wpC _ _ _ ?_
  simp -dsimp [go_sem, hN]
  refine cnd (fun h0 => ?_) (fun h0 => ?_) <;> simp at h0
  · have e : tickR m = ({ m with steps := W64 (m.steps + 1) } : RM).ab 1008 := by unfold tickR; rw [if_pos h0]
    rw [e]
    simp -dsimp [go_sem, hN]
    refine tcall_pure (c_ref15_Abort C { m with steps := W64 (m.steps + 1) } 1008) ?_
    simp -dsimp [go_sem, hN]
  · have e : tickR m = { m with steps := W64 (m.steps + 1) } := by unfold tickR; rw [if_neg (by have : W64 (m.steps + 1) = IntKind.i64.wrap (m.steps + 1) := rfl; omega)]
    rw [e]
    simp -dsimp [go_sem, hN]
theorem c_ref15_Commit (m : RM) : APure Tryz.prog 48 [.agg (m.c C)] (.agg (Eff.c ⟨1, m.code, m.out, m.reads, m.puts, m.own, m.miss, m.steps⟩)) := by
  refine apure_introB Tryz.func48 rfl (by kernel_rfl) (by simp [Tryz.ntmps48]) rfl ?_
  intro E h hN hh hu hb
  rw [Tryz.ntmps48] at hN
  refine awp_of_wpC _ _ _ ?_
  simp -dsimp [go_sem, hN]
theorem c_ref15_ended (m : RM) : APure Tryz.prog 47 [.agg (m.c C)] (.agg (Eff.c ⟨m.st, m.code, [], m.reads, m.puts, [], m.miss, m.steps⟩)) := by
  refine apure_introB Tryz.func47 rfl (by kernel_rfl) (by simp [Tryz.ntmps47]) rfl ?_
  intro E h hN hh hu hb
  rw [Tryz.ntmps47] at hN
  refine awp_of_wpC _ _ _ ?_
  simp -dsimp [go_sem, hN]
theorem c_ref15_nothing : APure Tryz.prog 43 [] (.agg wrongE.c) := by
  refine apure_introB Tryz.func43 rfl (by kernel_rfl) (by simp [Tryz.ntmps43]) rfl ?_
  intro E h hN hh hu hb
  rw [Tryz.ntmps43] at hN
  refine awp_of_wpC _ _ _ ?_
  simp -dsimp [go_sem, hN, wrongE]
theorem c_ref15_num (n : Int) : APure Tryz.prog 98 [I n] (.agg (vI n).c) := by
  refine apure_introB Tryz.func98 rfl (by kernel_rfl) (by simp [Tryz.ntmps98]) rfl ?_
  intro E h hN hh hu hb
  rw [Tryz.ntmps98] at hN
  refine awp_of_wpC _ _ _ ?_
  simp -dsimp [go_sem, hN, vI]
theorem c_ref15_truth (b : Bool) : APure Tryz.prog 202 [Bo b] (.agg (vB b).c) := by
  refine apure_introB Tryz.func202 rfl (by kernel_rfl) (by simp [Tryz.ntmps202]) rfl ?_
  intro E h hN hh hu hb
  rw [Tryz.ntmps202] at hN
  refine awp_of_wpC _ _ _ ?_
  simp -dsimp [go_sem, hN]
  refine cnd (fun h0 => ?_) (fun h0 => ?_) <;> subst h0 <;> simp -dsimp [go_sem, hN, vB]
theorem c_ref15_wrong (m : RM) : APure Tryz.prog 100 [.agg (m.c C)] (.tuple [.agg V.nil.c, .agg ((m.ab 1009).c C)]) := by
  refine apure_introB Tryz.func100 rfl (by kernel_rfl) (by simp [Tryz.ntmps100]) rfl ?_
  intro E h hN hh hu hb
  rw [Tryz.ntmps100] at hN
  refine awp_of_wpC _ _ _ ?_
  simp -dsimp [go_sem, hN]
  refine tcall_pure (c_ref15_Abort C m 1009) ?_
  simp -dsimp [go_sem, hN]
theorem c_ref15_calculated (m : RM) (n e : Int) : APure Tryz.prog 201 [.agg (m.c C), I n, I e] (.tuple [.agg (calcR m (n, e)).1.c, .agg ((calcR m (n, e)).2.c C)]) := by
  refine apure_introB Tryz.func201 rfl (by kernel_rfl) (by simp [Tryz.ntmps201]) rfl ?_
  intro E h hN hh hu hb
  rw [Tryz.ntmps201] at hN
  refine awp_of_wpC _ _ _ ?_
  simp -dsimp [go_sem, hN]
  refine cnd (fun h0 => ?_) (fun h0 => ?_) <;> simp at h0
  · have e1 : calcR m (n, e) = (V.nil, m.ab 1002) := by unfold calcR; rw [if_pos h0]
    rw [e1]
    simp -dsimp [go_sem, hN]
    refine tcall_pure (c_ref15_Abort C m 1002) ?_
    simp -dsimp [go_sem, hN]
  simp -dsimp [go_sem, hN]
  refine cnd (fun h1 => ?_) (fun h1 => ?_) <;> simp at h1
  · have e1 : calcR m (n, e) = (V.nil, m.ab 1001) := by unfold calcR; rw [if_neg h0, if_pos h1]
    rw [e1]
    simp -dsimp [go_sem, hN]
    refine tcall_pure (c_ref15_Abort C m 1001) ?_
    simp -dsimp [go_sem, hN]
  · have e1 : calcR m (n, e) = (vI n, m) := by unfold calcR; rw [if_neg h0, if_neg (by simpa using h1)]
    rw [e1]
    simp -dsimp [go_sem, hN]
    refine awp_drawG 4 mixed (by kernel_rfl) ?_
    simp -dsimp [go_sem, hN]
    refine tdcall (c_ref15_num n) (by simp) ?_
    simp -dsimp [go_sem, hN]
    all_goals try simp [sepD, List.zipIdx]
theorem c_ref15_arithmetic (op a b : Int) (ha : i64 a) (hb2 : i64 b) : APure Tryz.prog 200 [I op, I a, I b] (.tuple [I (arithR op a b).1, I (arithR op a b).2]) := by
  refine apure_introB Tryz.func200 rfl (by kernel_rfl) (by simp [Tryz.ntmps200]) rfl ?_
  intro E h hN hh hu hb
  rw [Tryz.ntmps200] at hN
  refine awp_of_wpC _ _ _ ?_
  by_cases h4 : op = 4
  · subst h4
    simp -dsimp [go_sem, hN]
    refine tcall_pure (c_ref01_Add a b ha hb2) ?_
    simp -dsimp [go_sem, hN, arithR]
  by_cases h5 : op = 5
  · subst h5
    simp -dsimp [go_sem, hN]
    refine tcall_pure (c_ref01_Sub a b ha hb2) ?_
    simp -dsimp [go_sem, hN, arithR]
  by_cases h6 : op = 6
  · subst h6
    simp -dsimp [go_sem, hN]
    refine tcall_pure (c_ref01_Mul a b ha hb2) ?_
    simp -dsimp [go_sem, hN, arithR]
  by_cases h7 : op = 7
  · subst h7
    simp -dsimp [go_sem, hN]
    refine tcall_pure (c_ref01_Div a b ha hb2) ?_
    simp -dsimp [go_sem, hN, arithR]
  simp -dsimp [go_sem, hN, h4, h5, h6, h7]
  refine tcall_pure (c_ref01_Mod a b) ?_
  simp -dsimp [go_sem, hN, arithR, h4, h5, h6, h7]
theorem c_ref15_compared (op c : Int) : APure Tryz.prog 203 [I op, I c] (Bo (cmpBy op c)) := by
  refine apure_introB Tryz.func203 rfl (by kernel_rfl) (by simp [Tryz.ntmps203]) rfl ?_
  intro E h hN hh hu hb
  rw [Tryz.ntmps203] at hN
  refine awp_of_wpC _ _ _ ?_
  by_cases h10 : op = 10
  · subst h10; simp -dsimp [go_sem, hN, cmpBy]
  by_cases h11 : op = 11
  · subst h11; simp -dsimp [go_sem, hN, cmpBy]
  by_cases h12 : op = 12
  · subst h12; simp -dsimp [go_sem, hN, cmpBy]
  by_cases h13 : op = 13
  · subst h13; simp -dsimp [go_sem, hN, cmpBy]
  by_cases h14 : op = 14
  · subst h14; simp -dsimp [go_sem, hN, cmpBy]
  simp -dsimp [go_sem, hN, cmpBy, h10, h11, h12, h13, h14]
end
end Go.Proofs.YtcmbmfmpelnimaaGreatDoor

namespace Go.Proofs.YtcmbmfmpelnimaaGreatDoor
open Go Go.Abs Go.Cw
@[simp] theorem any20 : anyT Tryz.prog 20 = true := by kernel_rfl
theorem c_run1_ret {c : Ctx} {h : AHeap} {w : World} (hs : HSim c h w) {i4 i5 : Nat} {vs : Array Value} (ha : RelL c [.ptr i4 0, .ptr i5 0] vs) :
    CallsD Tryz.prog 78 vs .returning w fun e u' w' => (∃ v, e = .returned v) ∧ u' = .returning ∧ ∃ c', HSim c' h w' ∧ (⟨12, c, h, w⟩ : Ent).ok c' h w' := by
  refine callsD_of_wpS Tryz.func78 rfl fun c₀ cs hu => ?_
  have s0 := sim_enter (N := 12) hs ha (by simp)
  refine wpS_seq (wpS_region ?_)
  simp [wpOpsS, go_sem, recoverD, hu, Exit.thenS, Tryz.ntmps78]
  obtain ⟨q1, q2, q3, q4, q5, q6, q7⟩ := c₀
  simp only at hu
  subst hu
  have s1 := s0.put (.refl c) hs (d := some 5) (by simp) (Rel.val Value.nilIface)
  refine wpS_fn (E := ⟨12, c, h, w⟩) (c₀ := ⟨q1, q2, q3, q4, .returning, q6, q7⟩) (U := .returning) (cs := cs) (fn := Tryz.f78) s1 (Ent.ok.refl 12 hs) (H := h) (n0 := h.length) (Nat.le_refl _) ?_
  refine awp_of_wpC _ _ _ ?_
  have hN : (⟨12, c, h, w⟩ : Ent).N = 12 := rfl
  have hu' := hs.hUnder
  simp -dsimp [go_sem, hN, Tryz.f78, hu']
  exact ⟨.tuple [], .refl _, h, rfl, hwk.refl _, Nat.le_refl _, hu', rfl, rfl⟩
@[simp] theorem za74 : zeroAV Tryz.prog 86 = some (.agg [I 0, I 0, .nils, S em]) := by kernel_rfl
theorem c_run1_pan {c : Ctx} {h : AHeap} {w : World} (hs : HSim c h w) {i4 i5 : Nat} {vs : Array Value} (ha : RelL c [.ptr i4 0, .ptr i5 0] vs) {st : List AV} (hst : st.length = 4) (x4 : List AV) (h4 : h[i4]? = some (.cells x4)) (hx4 : x4.length = 4) (x5 : AV) (h5 : h[i5]? = some (.cells [x5])) (h45 : i4 ≠ i5) (hds : st.all AV.one = true)
    {v : Value} (hv : Rel c (.iface 86 (.agg st)) v) :
    CallsD Tryz.prog 78 vs (.panicking [⟨v, false, false⟩]) w fun e u' w' => (∃ v, e = .returned v) ∧ u' = .panicking [⟨v, true, false⟩] ∧ ∃ c', HSim c' ((h.set i4 (.cells st)).set i5 (.cells [Bo true])) w' ∧ (⟨12, c, h, w⟩ : Ent).ok c' ((h.set i4 (.cells st)).set i5 (.cells [Bo true])) w' := by
  refine callsD_of_wpS Tryz.func78 rfl fun c₀ cs hu => ?_
  have s0 := sim_enter (N := 12) hs ha (by simp)
  refine wpS_seq (wpS_region ?_)
  simp [wpOpsS, go_sem, recoverD, hu, Exit.thenS, Tryz.ntmps78]
  have s1 := s0.put (.refl c) hs (d := some 5) (by simp) hv
  refine wpS_fn (E := ⟨12, c, h, w⟩) (c₀ := c₀) (U := .panicking [⟨v, true, false⟩]) (cs := cs) (fn := Tryz.f78) s1 (Ent.ok.refl 12 hs) (H := (h.set i4 (.cells st)).set i5 (.cells [Bo true])) (n0 := h.length) (Nat.le_refl _) ?_
  refine awp_of_wpC _ _ _ ?_
  have hN : (⟨12, c, h, w⟩ : Ent).N = 12 := rfl
  have hu' := hs.hUnder
  have l4 : i4 < h.length := (List.getElem?_eq_some_iff.1 h4).1
  have l5 : i5 < h.length := (List.getElem?_eq_some_iff.1 h5).1
  obtain ⟨a, b, d, e, rfl⟩ : ∃ a b d e, st = [a, b, d, e] := by
    match st, hst with
    | [a, b, d, e], _ => exact ⟨a, b, d, e, rfl⟩
  have hun : underL h.length [a, b, d, e] = true := by
    have := hv.under hs.dom
    simpa [AV.under] using this
  have a4 : (h ++ [AObj.cells [a, b, d, e]])[i4]? = some (.cells x4) := by rw [List.getElem?_append_left l4]; exact h4
  have a5 : ((h ++ [AObj.cells [a, b, d, e]]).set i4 (AObj.cells [a, b, d, e]))[i5]? = some (.cells [x5]) := by rw [List.getElem?_set_ne h45, List.getElem?_append_left l5]; exact h5
  simp -dsimp [go_sem, hN, Tryz.f78, hu', a4, a5, hx4]
  rw [show x4.drop 4 = [] from List.drop_eq_nil_of_le (by omega), a5]
  refine ⟨by simp, .tuple [], .refl _, _, rfl, ?_, ?_, ?_, rfl, rfl⟩
  · rw [List.set_append_left _ _ l4, List.set_append_left _ _ (by simpa using l5)]
    exact hwk.app0 _
  · simp
  · simp only [List.length_set]
    exact hUnder_set (hUnder_set hu' hun) (by simp [AObj.under, underL, AV.under])
def zs : List AV := [I 0, I 0, .slice [], S em]
theorem c_interp_run (m : AV) {g : FuncId} {first caps : List AV} {h : AHeap} {Rg R : AEnd → AHeap → Prop} (hg : ACalls Tryz.prog g (normL (h ++ [.cells [I 0, I 0, .nils, S em], .cells [Bo false]]) (first ++ caps)) (h ++ [.cells [I 0, I 0, .nils, S em], .cells [Bo false]]) Rg)
    (hR : ∀ r h', Rg r h' → h.length + 2 ≤ h'.length → (∃ x4, h'[h.length]? = some (.cells x4) ∧ x4.length = 4) ∧ (∃ x5, h'[h.length + 1]? = some (.cells [x5])) ∧ hUnder h.length (h'.take h.length) = true ∧ match r with
      | .ret _ => R (.ret (.tuple [.agg zs, Bo false])) (h'.take h.length)
      | .panic (.iface 86 (.agg st)) => st.length = 4 ∧ st.all AV.one = true ∧ underL h.length st = true ∧ R (.ret (.tuple [.agg st, Bo true])) (h'.take h.length)
      | _ => False) (hst' : ∀ h' st, Rg (.panic (.iface 86 (.agg st))) h' → ∀ H, normL H st = st) : ACalls Tryz.prog 36 [m, .fn (.func g) first caps] h R := by
  refine ⟨⟨_, Tryz.func36, by kernel_rfl, by kernel_rfl⟩, fun c w vs hs ha => ?_⟩
  refine calls_of_wp_defers Tryz.func36 rfl ?_
  have s0 := sim_enter (N := 10) hs ha (by simp)
  have k0 := Ent.ok.refl 10 hs
  rw [Tryz.ntmps36]
  refine wp_seq (wp_mono ((awp_opsG (E := ⟨10, c, h, w⟩) (Q := fun x e => x = .normal ∧ e = ⟨[(5, .ptr (h.length + 1) 0), (4, .ptr h.length 0), (0, m), (1, .fn (.func g) first caps)], h ++ [.cells [I 0, I 0, .nils, S em], .cells [Bo false]]⟩) ?_) c _ w s0 k0) ?_)
  · have hN : (⟨10, c, h, w⟩ : Ent).N = 10 := rfl
    simp -dsimp [go_sem, hN]
  rintro ex a1 w1 ⟨x', e1, c1, ⟨rfl, rfl⟩, hx, s1, k1⟩
  cases ex <;> simp only [XR] at hx
  show Code.wp _ _ _ a1 w1
  have t4 := s1.tmps 4
  have t5 := s1.tmps 5
  have t1 := s1.tmps 1
  simp [lookT] at t4 t5 t1
  refine wp_seq (wp_region_list ?_)
  have sz : a1.tmps.size = 10 := s1.size
  have df : a1.defers = [] := s1.defers
  obtain ⟨tm, dfs⟩ := a1
  simp only at sz df
  subst df
  simp [wpList, go_sem, Oper.wp, Oper.upon, Instr.makeFunc, sz]
  refine .inl (.inl ?_)
  have s3 := s1.put (.refl c1) s1.hs (d := some 6) (by simp) (Rel.top (Value.func (Fn.func 78) #[] #[tm[4], tm[5]]))
  have E3 : ({ tmps := tm.setIfInBounds 6 (Value.func (Fn.func 78) #[] #[tm[4], tm[5]]), defers := [{ target := Target.fn (Fn.func 78) #[tm[4], tm[5]], args := #[] }] } : Act) = ddf [{ target := Target.fn (Fn.func 78) #[tm[4], tm[5]], args := #[] }] (({ tmps := tm, defers := [] } : Act).put (some 6) (Value.func (Fn.func 78) #[] #[tm[4], tm[5]])) := rfl
  rw [E3]
  have hd4 : ∀ c', c1.le c' → RelL c' [.ptr h.length 0, .ptr (h.length + 1) 0] #[tm[4], tm[5]] := fun c' hle => ⟨rfl, fun j x v hx hv => by
    match j with
    | 0 => simp at hx hv; subst hx; subst hv; simpa [sz] using t4.mono hle
    | 1 => simp at hx hv; subst hx; subst hv; simpa [sz] using t5.mono hle
    | j + 2 => simp at hx⟩
  -- what stands behind the deferred call
  have fin : ∀ (c5 : Ctx) (e5 : Env) (a5 : Act) (w5 : World) (hf : AHeap) (st : List AV) (b : Bool), Sim 10 c5 e5 a5 w5 → (⟨10, c, h, w⟩ : Ent).ok c5 e5.h w5 → lookT e5.t 4 = .ptr h.length 0 → lookT e5.t 5 = .ptr (h.length + 1) 0 →
      e5.h[h.length]? = some (.cells st) → st.length = 4 → underL h.length (normL e5.h st) = true → e5.h[h.length + 1]? = some (.cells [Bo b]) → hwk e5.h hf → hf.length = h.length → hUnder h.length hf = true → R (.ret (.tuple [.agg (normL e5.h st), Bo b])) hf →
      ∃ v, (results Tryz.f36 a5.tmps).run Tryz.prog w5 = .ok v w5 ∧ ∃ r h', R r h' ∧ ∃ x, EndR x r (.returned v) ∧ HSim x h' w5 ∧ (⟨0, c, h, w⟩ : Ent).ok x h' w5 := by
    intro c5 e5 a5 w5 hf st b s5 k5 l4 l5 g4 hst hun g5 hw hl hu hRR
    obtain ⟨v, hv, hr⟩ := results_ok (E := ⟨10, c, h, w⟩) (P := Tryz.prog) s5 Tryz.f36 (by
      simp [Tryz.f36, go_sem, l4, l5, g4, g5, hst])
    have hval : (mkRes ((Tryz.f36).results.toList.map fun r => (resSV Tryz.prog e5 r).val)) = .tuple [.agg st, Bo b] := by
      have ht : st.take 4 = st := List.take_of_length_le (by omega)
      simp [Tryz.f36, go_sem, l4, l5, g4, g5, ht]
    rw [hval] at hr
    obtain ⟨c6, q1, q2, q3⟩ := finish (E := ⟨10, c, h, w⟩) s5 k5 hr (r' := .tuple [.agg (normL e5.h st), Bo b]) (h' := hf) (by simp [AV.norm, normL]) (by simp [AV.under, underL, hl]; exact hun) hw (by simp [hl]) (by rw [hl]; exact hu)
    exact ⟨v, hv, _, hf, hRR, c6, q3, q1, q2.withN 0⟩
  have k3 : (⟨10, c1, h ++ [.cells [I 0, I 0, .nils, S em], .cells [Bo false]], w1⟩ : Ent).ok c1 (h ++ [.cells [I 0, I 0, .nils, S em], .cells [Bo false]]) w1 := Ent.ok.refl 10 s1.hs
  refine wp_seq (wp_region_list (wpList_ddf (Q := conc ⟨10, c1, h ++ [.cells [I 0, I 0, .nils, S em], .cells [Bo false]], w1⟩ fun x e => match x with
    | .normal => (∃ v, Rg (.ret v) e.h) ∧ lookT e.t 4 = .ptr h.length 0 ∧ lookT e.t 5 = .ptr (h.length + 1) 0
    | .panic v => Rg (.panic v) e.h ∧ lookT e.t 4 = .ptr h.length 0 ∧ lookT e.t 5 = .ptr (h.length + 1) 0
    | _ => False) ?_ ((opsG_sound (E := ⟨10, c1, h ++ [.cells [I 0, I 0, .nils, S em], .cells [Bo false]], w1⟩) _ [] _ rfl ?_) c1 _ w1 s3 k3)))
  · rintro x a w2 ⟨x', e2, c2, hq, hx, s2, k2⟩
    have hle : c1.le c2 := k2.ext
    have hlen : h.length + 2 ≤ e2.h.length := by simpa using k2.len
    cases x' with
    | normal =>
      cases x <;> simp only [XR] at hx
      obtain ⟨⟨v, hv⟩, l4, l5⟩ := hq
      obtain ⟨⟨x4, g4, lx4⟩, ⟨x5, g5⟩, hu2, hRR⟩ := hR _ _ hv hlen
      show Code.wp _ _ _ _ _
      have n4 : h.length < e2.h.length := by omega
      have n5 : h.length + 1 < e2.h.length := by omega
      refine wp_seq (wp_region_list (wpList_ddf (Q := conc ⟨10, c2, e2.h, w2⟩ fun x e => x = .normal ∧ e.h = (e2.h.set h.length (.cells [I 0, I 0, .nils, S em])).set (h.length + 1) (.cells [Bo false]) ∧ lookT e.t 4 = .ptr h.length 0 ∧ lookT e.t 5 = .ptr (h.length + 1) 0) ?_ ((opsG_sound (E := ⟨10, c2, e2.h, w2⟩) _ [] _ rfl ?_) c2 _ w2 s2 (Ent.ok.refl 10 s2.hs))))
      · rintro x a w3 ⟨x', e3, c3, ⟨rfl, h3, l4', l5'⟩, hx, s3', k3'⟩
        cases x <;> simp only [XR] at hx
        show Code.wp _ _ _ _ _
        refine wp_ret ?_
        have hle3 : c1.le c3 := hle.trans k3'.ext
        show Leaves _ _ _ _ (a.defers ++ _) _ _
        rw [s3'.defers, List.nil_append]
        refine leaves_cons (f := 78) (args := #[tm[4], tm[5]]) (by simp) (by simp [invoke]) ((c_run1_ret s3'.hs (hd4 c3 hle3)).mono ?_)
        rintro en u' w4 ⟨⟨v4, rfl⟩, rfl, c4, s4, k4⟩
        have sim4 : Sim 10 c4 e3 a w4 := ⟨s3'.defers, s3'.size, fun i => (s3'.tmps i).mono k4.ext, s4⟩
        have e3a : e3.h[h.length]? = some (.cells [I 0, I 0, .nils, S em]) := by rw [h3]; simp [n4]
        have e3b : e3.h[h.length + 1]? = some (.cells [Bo false]) := by rw [h3]; simp [n5]
        have kk : (⟨10, c, h, w⟩ : Ent).ok c4 e3.h w4 := ((k1.trans k2).trans k3').trans k4
        obtain ⟨v5, h5, h6⟩ := fin c4 e3 a w4 (e2.h.take h.length) [I 0, I 0, .nils, S em] false sim4 kk l4' l5' e3a rfl (by simp [normL, AV.norm, underL, AV.under]) e3b (by
          rw [h3]
          exact hwk_take2 (by omega)) (by simp; omega) hu2 (by simpa [normL, AV.norm, zs] using hRR)
        exact ⟨v5, h5, h6⟩
      · have hN : (⟨10, c2, e2.h, w2⟩ : Ent).N = 10 := rfl
        have g5' : (e2.h.set h.length (AObj.cells [I 0, I 0, .nils, S em]))[h.length + 1]? = some (.cells [x5]) := by rw [List.getElem?_set_ne (by omega)]; exact g5
        simp -dsimp [go_sem, hN, l4, l5, g4, g5, lx4]
        try rw [show x4.drop 4 = [] from List.drop_eq_nil_of_le (by omega)]
        try simp -dsimp [go_sem, g5', l4, l5]
    | panic v =>
      obtain ⟨hv, l4, l5⟩ := hq
      obtain ⟨⟨x4, g4, lx4⟩, ⟨x5, g5⟩, hu2, hRR⟩ := hR _ _ hv hlen
      split at hRR
      · rename_i he; cases he
      · rename_i st he
        cases he
        obtain ⟨hst, hone, hun, hRR⟩ := hRR
        cases x with
        | panic ch =>
          cases ch with
          | nil => simp [XR] at hx
          | cons p l =>
            cases l with
            | cons => simp [XR] at hx
            | nil =>
              obtain ⟨u, rc, gx⟩ := p
              cases rc <;> cases gx <;> simp only [XR] at hx
              show Leaves _ _ _ _ (a.defers ++ _) _ _
              rw [s2.defers, List.nil_append]
              refine leaves_cons (f := 78) (args := #[tm[4], tm[5]]) (by simp) (by simp [invoke]) ((c_run1_pan s2.hs (hd4 c2 hle) hst x4 g4 lx4 x5 g5 (by omega) hone hx).mono ?_)
              rintro en u' w4 ⟨⟨v4, rfl⟩, rfl, c4, s4, k4⟩
              have n4 : h.length < e2.h.length := by omega
              have n5 : h.length + 1 < e2.h.length := by omega
              have sim4 : Sim 10 c4 ⟨e2.t, (e2.h.set h.length (.cells st)).set (h.length + 1) (.cells [Bo true])⟩ a w4 := ⟨s2.defers, s2.size, fun i => (s2.tmps i).mono k4.ext, s4⟩
              have kk : (⟨10, c, h, w⟩ : Ent).ok c4 ((e2.h.set h.length (.cells st)).set (h.length + 1) (.cells [Bo true])) w4 := (k1.trans k2).trans k4
              have hnorm : normL ((e2.h.set h.length (.cells st)).set (h.length + 1) (.cells [Bo true])) st = st := hst' _ _ hv _
              obtain ⟨v5, h5, h6⟩ := fin c4 ⟨e2.t, (e2.h.set h.length (.cells st)).set (h.length + 1) (.cells [Bo true])⟩ a w4 (e2.h.take h.length) st true sim4 kk l4 l5 (by simp [n4]) hst (by rw [hnorm]; exact hun) (by simp [n5]) (hwk_take2 (by omega)) (by simp; omega) hu2 (by rw [hnorm]; exact hRR)
              exact ⟨v5, h5, h6⟩
        | _ => simp [XR] at hx
      · exact hRR.elim
    | _ => exact hq.elim
  · have hN : (⟨10, c1, h ++ [.cells [I 0, I 0, .nils, S em], .cells [Bo false]], w1⟩ : Ent).N = 10 := rfl
    simp -dsimp [go_sem, hN]
    refine tcall hg fun r h' hr => ?_
    cases r <;> simp [go_sem, hr]
    exact ⟨_, hr⟩
end Go.Proofs.YtcmbmfmpelnimaaGreatDoor

set_option maxRecDepth 4000
namespace Go.Proofs.YtcmbmfmpelnimaaGreatDoor
open Go Go.Abs Go.Cw Go.Shelf Go.Lib
def renI : Ren := ⟨fun | 17 => 283 | 22 => 222 | 29 => 252 | 30 => 253 | 36 => 269 | x => x, fun | 0 => 0 | 3 => 3 | 4 => 4 | 9 => 9 | 24 => 27 | x => x, fun x => x⟩
theorem laysI : Lays2.n22 Tryz.prog renI := by
  constructor <;> first | exact fun _ => by kernel_rfl | kernel_rfl
theorem c_cmpNaN_str (s : Bytes) : APure Tryz.prog 208 [S s] (Bo false) := by
  refine apure_introB Tryz.func208 rfl (by kernel_rfl) (by simp [Tryz.ntmps208]) rfl ?_
  intro E h hN hh hu hb
  rw [Tryz.ntmps208] at hN
  refine awp_of_wpC _ _ _ ?_
  simp -dsimp [go_sem, hN]
theorem c_isNaN_str (s : Bytes) : APure Tryz.prog 154 [S s] (Bo false) := by
  refine apure_introB Tryz.func154 rfl (by kernel_rfl) (by simp [Tryz.ntmps154]) rfl ?_
  intro E h hN hh hu hb
  rw [Tryz.ntmps154] at hN
  refine awp_of_wpC _ _ _ ?_
  simp -dsimp [go_sem, hN]
theorem c_less_str (a b : Bytes) : APure Tryz.prog 153 [S a, S b] (Bo (sLt a b)) := by
  refine apure_introB Tryz.func153 rfl (by kernel_rfl) (by simp [Tryz.ntmps153]) rfl ?_
  intro E h hN hh hu hb
  rw [Tryz.ntmps153] at hN
  refine awp_of_wpC _ _ _ ?_
  simp -dsimp [go_sem, hN]
  refine tcall_pure (c_cmpNaN_str a) ?_
  simp -dsimp [go_sem, hN]
  refine tgcall_false ?_
  simp -dsimp [go_sem, hN]
theorem c_BinarySearch (l : List Bytes) (k : Bytes) (hs : ascS l) : APure Tryz.prog 113 [.slice (l.map sRow), S k] (.tuple [I (posS k l), Bo (decide (l[posS k l]? = some k))]) := by
  refine apure_introB Tryz.func113 rfl (by kernel_rfl) (by simp [Tryz.ntmps113]) rfl ?_
  intro E h hN hh hu hb
  rw [Tryz.ntmps113] at hN
  refine awp_of_wpC _ _ _ ?_
  simp [go_sem] at hb
  have hp := posS_le k l
  simp -dsimp [go_sem, hN]
  refine awp_loopM (α := Nat × Nat) (fun x => x.1 ≤ posS k l ∧ posS k l ≤ x.2 ∧ x.2 ≤ l.length) (fun x => ⟨[(0, .slice (l.map sRow)), (1, S k), (6, I l.length), (7, I x.1), (8, I x.2)], h⟩) (fun x => x.2 - x.1) (0, l.length) ⟨by simp, hp, by simp⟩ (Wk.mk (by simp [hh]) (by simp [go_sem]) (by simp [hu, hUnder_ext hu, go_sem]) (by simp [go_sem])) ?_
  rintro ⟨i, j⟩ ⟨h1, h2, h3⟩
  simp only at h1 h2 h3
  simp -dsimp [go_sem, hN]
  refine cnd (fun hc => ?_) (fun hc => ?_) <;> simp at hc
  · have hm : IntKind.i64.wrap ((IntKind.u64.wrap (IntKind.i64.wrap ((i : Int) + j))).fdiv 2) = (((i + j) / 2 : Nat) : Int) := by
      have h0 := hb.1.1
      have e0 : IntKind.i64.wrap ((i : Int) + j) = (i : Int) + j := wrapI (by omega) (by omega)
      rw [e0]
      have : IntKind.u64.wrap ((i : Int) + j) = (i : Int) + j := by
        simp only [IntKind.wrap, IntKind.bits, IntKind.signed]
        simp
        omega
      rw [this]
      have e1 : ((i : Int) + j).fdiv 2 = (((i + j) / 2 : Nat) : Int) := by
        rw [Int.fdiv_eq_ediv_of_nonneg _ (by omega)]
        omega
      rw [e1, wrapI (by omega) (by omega)]
    have hlt : (i + j) / 2 < l.length := by omega
    have hi' := posS_lt (k := k) hs ((i + j) / 2) hlt
    generalize hq : (i + j) / 2 = q at hm hlt hi'
    have hw : IntKind.i64.wrap ((q : Int) + 1) = ((q + 1 : Nat) : Int) := by have h0 := hb.1.1; rw [wrapI (by omega) (by omega)]; omega
    simp -dsimp [go_sem, hN, hm, hlt, sRow]
    refine tcall_pure (c_less_str l[q] k) ?_
    simp -dsimp [go_sem, hN]
    refine cnd (fun hc2 => ?_) (fun hc2 => ?_)
    · simp -dsimp [go_sem, hN, hw]
      exact ⟨q + 1, j, ⟨by have := hi'.2 hc2; omega, h2, h3⟩, by omega, (Wk.mk (by simp [hh]) (by simp [go_sem]) (by simp [hu, hUnder_ext hu, go_sem]) (by simp [go_sem]))⟩
    · simp -dsimp [go_sem, hN]
      refine ⟨i, q, ⟨h1, ?_, by omega⟩, by omega, (Wk.mk (by simp [hh]) (by simp [go_sem]) (by simp [hu, hUnder_ext hu, go_sem]) (by simp [go_sem]))⟩
      rcases Nat.lt_or_ge q (posS k l) with h5 | h5
      · have := hi'.1 h5; rw [this] at hc2; cases hc2
      · exact h5
  · have hi : i = posS k l := by omega
    subst hi
    by_cases hlt : posS k l < l.length
    · simp -dsimp [go_sem, hN, hlt, sRow]
      repeat refine ⟨by grind, ?_⟩
      refine tgcall_pure (c_isNaN_str _) (by simp) ?_
      simp -dsimp [go_sem, hN]
      refine tgcall_false ?_
      simp -dsimp [go_sem, hN]
      rw [List.getElem?_eq_getElem hlt]
      simp
    · have hd : decide (posS k l < l.length) = false := by simpa using hlt
      have hnone : l[posS k l]? = none := List.getElem?_eq_none (by omega)
      simp -dsimp [go_sem, hN, hd, hnone]
      refine tgcall_false ?_
      simp -dsimp [go_sem, hN]
      refine tgcall_false ?_
      simp -dsimp [go_sem, hN]
      rw [hnone]; simp
theorem c_with (h : AHeap) (i : Nat) (l : List Bytes) (hi : h[i]? = some (.uarr 9 1 (l.map sRow))) (hlen : l.length + 1 ≤ 68719476736) (key : Bytes) (ha : ascS l) :
    ACalls Tryz.prog 169 [.own i l.length, S key] h fun r h' => r = .ret (.own i (withS l key).length) ∧ h' = h.set i (.uarr 9 1 ((withS l key).map sRow)) := by
  refine acalls_intro Tryz.func169 rfl (by kernel_rfl) (by simp [Tryz.ntmps169]) ?_
  intro E hN hh hu
  rw [Tryz.ntmps169] at hN
  have hil : i < h.length := (List.getElem?_eq_some_iff.1 hi).1
  have hn : (l.map sRow).length = l.length := by simp
  have hB := c_BinarySearch l key ha
  refine awp_seq (awp_ops ?_)
  simp [go_sem, hN]
  refine awp_seq (awp_opsB [_, _] ?_)
  simp [go_sem, hN, borStep, borV, hi, hn]
  refine ⟨_, hB, by simp [flatB], ?_⟩
  simp [go_sem, hN]
  refine awp_seq (awp_seq (awp_ops ?_))
  simp [go_sem, hN]
  have hle := posS_le key l
  rcases hc : decide (l[posS key l]? = some key) with _ | _
  · have hw : withS l key = l.take (posS key l) ++ key :: l.drop (posS key l) := by rw [withS, if_neg (by simpa using hc)]
    refine awp_cond (b := false) (by simpa [go_sem] using hc) (fun h => by cases h) (fun _ => ?_)
    refine awp_skip ?_
    simp
    refine awp_seq (awp_opsT [_, _, _] _ ?_)
    simp [go_sem, hN]
    intro c a w s k
    refine wp_insert laysI s k (T := 27) (x := .tmp 17) (xa := .tmp 15) (xb := .tmp 16) (f := .func 222) (d1 := 18) rfl rfl rfl (by omega) (by simp [dstOk, hN]) rfl rfl (by simp [renI]) (by simp [renI]) (by simp [renI]) (by simp [go_sem]) (key := key) (by simp [go_sem]) (i := i) (n := l.length) (by simp [go_sem]) (pos := posS key l) (by simp [go_sem]) (by simp) (by simp) rfl hi hn hle hlen
      ⟨_, Tryz.func222, by kernel_rfl, by kernel_rfl⟩ fun c' a' w' s' k' => ?_
    refine opsF_sound _ [_, _, _, _, _] _ rfl ?_ c' a' w' s' k'
    simp [go_sem, hN]
    have hl' : (withS l key).length = l.length + 1 := by rw [hw]; simp; omega
    refine awp_ret ⟨⟨trivial, trivial⟩, .own i (l.length + 1), _, ?_, ?_, hwk.refl _, ?_, ?_, by rw [hl'], by rw [hw]; simp [List.map_take, List.map_drop, sRow, renI]⟩
    · simp [go_sem, hil]
    · simp [AV.under, hil]
    · simp
    · rw [hUnder_iff] at hu ⊢
      intro o ho
      simp only [List.length_set]
      rcases List.mem_or_eq_of_mem_set ho with ho | rfl
      · exact hu o ho
      · rfl
  · have hw : withS l key = l := by rw [withS, if_pos (by simpa using hc)]
    refine awp_cond (b := true) (by simpa [go_sem] using hc) (fun _ => ?_) (fun h => by cases h)
    refine awp_seq (awp_ops ?_)
    simp [go_sem, hN]
    rw [hw, set_same hi]
    refine awp_ret ⟨⟨trivial, trivial⟩, .own i l.length, h, by simp [go_sem, hi], by simp [AV.under, hil], hwk.refl _, Nat.le_refl _, hu, rfl, rfl⟩
end Go.Proofs.YtcmbmfmpelnimaaGreatDoor

set_option maxRecDepth 4000
set_option maxHeartbeats 2000000
namespace Go.Proofs.YtcmbmfmpelnimaaGreatDoor
open Go Go.Abs Go.Cw
attribute [local go_sem] mC
variable {C : Cfg} {tT : TypeId} {tx : Nat × Nat} {g m v o io ir ip : Nat} {K : MQ → AHeap} {n0 : Nat}
abbrev MHs (C : Cfg) (tT : TypeId) (tx : Nat × Nat) (g m v o io ir ip : Nat) (K : MQ → AHeap) (n0 : Nat) : Prop := MH C (tabO tT tx) 47 9 g m v o io ir ip K n0
theorem c_machine_tick (Y : MHs C tT tx g m v o io ir ip K n0) (s : MS) (hst : s.steps ≤ 100000) :
    ACalls Tryz.prog 79 [.ptr m 0] (K s.q) fun r h' => r = endU (tickS s).1 ∧ h' = K (tickS s).2.q := by
  refine acalls_introB Tryz.func79 rfl (by kernel_rfl) (by simp [Tryz.ntmps79]) ?_
  intro E hN hh hu hb hb' hua
  rw [Tryz.ntmps79] at hN
  refine awp_of_wpC _ _ _ ?_
  have hw : IntKind.i64.wrap ((s.steps : Int) + 1) = (s.steps : Int) + 1 := wrapI (by omega) (by omega)
  simp -dsimp [go_sem, hN, Y.lm, hw, Y.smx]
  refine cnd (fun h0 => ?_) (fun h0 => ?_) <;> simp at h0
  · simp -dsimp [go_sem, hN]
    refine tcall (c_interp_abort 1008 _) ?_
    rintro r h' ⟨rfl, rfl⟩
    simp -dsimp [go_sem, hN]
    rw [tickS, if_pos (by omega)]
    exact ⟨_, .refl _, K (tickS s).2.q, by simp [go_sem], by first | exact hwk.refl _ | exact hwk.app0 _ | simp [hwk.refl], by simp [Y.len], Y.und' _, by first | rfl | simp, by first | rfl | simp [MS.q]⟩
  · simp -dsimp [go_sem, hN]
    rw [tickS, if_neg (by omega)]
    exact ⟨_, .refl _, K (tickS s).2.q, by simp [go_sem], by first | exact hwk.refl _ | exact hwk.app0 _ | simp [hwk.refl], by simp [Y.len], Y.und' _, by first | rfl | simp, by first | rfl | simp [MS.q]⟩
theorem c_machine_emit (Y : MHs C tT tx g m v o io ir ip K n0) (s : MS) (x : V) (hl : s.out.length ≤ 100) :
    ACalls Tryz.prog 122 [.ptr m 0, .agg x.c] (K s.q) fun r h' => r = endU (emitS x s).1 ∧ h' = K (emitS x s).2.q := by
  refine acalls_introB Tryz.func122 rfl (by kernel_rfl) (by simp [Tryz.ntmps122]) ?_
  intro E hN hh hu hb hb' hua
  rw [Tryz.ntmps122] at hN
  refine awp_of_wpC _ _ _ ?_
  simp -dsimp [go_sem, hN, Y.lm', Y.lio']
  refine cnd (fun h0 => ?_) (fun h0 => ?_) <;> simp at h0
  · simp -dsimp [go_sem, hN]
    refine tcall (c_interp_abort 1007 _) ?_
    rintro r h' ⟨rfl, rfl⟩
    simp -dsimp [go_sem, hN]
    rw [emitS, if_pos (by omega)]
    exact ⟨_, .refl _, K s.q, by simp [go_sem], by first | exact hwk.refl _ | exact hwk.app0 _ | simp [hwk.refl], by simp [Y.len], Y.und' _, by first | rfl | simp, by first | rfl | simp [MS.q]⟩
  simp -dsimp [go_sem, hN]
  refine awp_drawP 10 9 [0] mixed (by kernel_rfl) ?_
  simp -dsimp [go_sem, hN, Y.lm', Y.lio', Y.len, Y.loc, Y.sioA, Y.smx']
  refine ⟨by omega, ?_⟩
  rw [emitS, if_neg (by omega)]
  exact ⟨_, .refl _, K ⟨s.vars, s.own, s.out ++ [x], s.reads, s.puts, s.out.length + 1, s.reads.length, s.puts.length, s.steps⟩, by simp [go_sem], by first | exact hwk.refl _ | exact hwk.app0 _ | simp [hwk.refl], by simp [Y.len], Y.und' _, by first | rfl | simp, by first | rfl | simp [MS.q]⟩
theorem c_machine_fetch (Y : MHs C tT tx g m v o io ir ip K n0) (s : MS) (key : Bytes) (ha : ascS s.reads) (hl : s.reads.length + 1 ≤ 68719476736) :
    ACalls Tryz.prog 143 [.ptr m 0, S key] (K s.q) fun r h' => r = endV (fetchS C key s).1 ∧ h' = K (fetchS C key s).2.q := by
  refine acalls_introB Tryz.func143 rfl (by kernel_rfl) (by simp [Tryz.ntmps143]) ?_
  intro E hN hh hu hb hb' hua
  rw [Tryz.ntmps143] at hN
  refine awp_of_wpC _ _ _ ?_
  simp -dsimp [go_sem, hN]
  refine tcall_pure (c_keys_Valid key) ?_
  simp -dsimp [go_sem, hN]
  refine cnd (fun h0 => ?_) (fun h0 => ?_) <;> simp at h0
  · simp -dsimp [go_sem, hN]
    refine tcall (c_interp_abort 1004 _) ?_
    rintro r h' ⟨rfl, rfl⟩
    simp -dsimp [go_sem, hN]
    rw [fetchS, if_pos h0]
    exact ⟨_, .refl _, K s.q, by simp [go_sem], by first | exact hwk.refl _ | exact hwk.app0 _ | simp [hwk.refl], by simp [Y.len], Y.und' _, by first | rfl | simp, by first | rfl | simp [MS.q]⟩
  rw [fetchS, if_neg (by simp [h0])]
  rcases hk : kGet s.own key with _ | w
  rotate_left
  · simp -dsimp [go_sem, hN, Y.lm', Y.lo', hk]
    exact ⟨_, .refl _, K s.q, by simp [go_sem], by first | exact hwk.refl _ | exact hwk.app0 _ | simp [hwk.refl], by simp [Y.len], Y.und' _, by first | rfl | simp, by first | rfl | simp [MS.q]⟩
  simp -dsimp [go_sem, hN, Y.lm', Y.lo', hk]
  refine tgcall_pure (c_Contains_S C.rd key) (by simp) ?_
  simp -dsimp [go_sem, hN]
  repeat refine ⟨by grind, ?_⟩
  refine cnd (fun h1 => ?_) (fun h1 => ?_) <;> simp at h1
  · simp -dsimp [go_sem, hN]
    refine tcall (c_interp_restart key _) ?_
    rintro r h' ⟨rfl, rfl⟩
    simp -dsimp [go_sem, hN]
    simp only [h1.1, h1.2, and_self, if_true]
    exact ⟨_, .refl _, K s.q, by simp [go_sem], by first | exact hwk.refl _ | exact hwk.app0 _ | simp [hwk.refl], by simp [Y.len], Y.und' _, by first | rfl | simp, by first | rfl | simp [MS.q]⟩
  have h1' : ¬ (C.all = false ∧ hasK C.rd key = false) := by rintro ⟨h2, h3⟩; have := h1 h2; rw [this] at h3; cases h3
  simp only [h1', if_false]
  simp -dsimp [go_sem, hN, Y.lm', Y.lir']
  refine tcall (c_with _ _ s.reads (Y.lir' s.q _) (by omega) key ha) ?_
  rintro r h' ⟨rfl, rfl⟩
  simp -dsimp [go_sem, hN, Y.sir', Y.lm', Y.smx', Y.len, Y.loc, Y.sloc, Y.loc1, Y.sloc1]
  refine tcall_pure (c_state_Get C.state key) ?_
  simp -dsimp [go_sem, hN, Y.sir', Y.lm', Y.smx', Y.len, Y.loc, Y.sloc, Y.loc1, Y.sloc1]
  exact ⟨_, .refl _, K (MS.q { s with reads := withS s.reads key }), by simp [go_sem], by first | exact hwk.refl _ | exact hwk.app0 _ | simp [hwk.refl], by simp [Y.len], Y.und' _, by first | rfl | simp, by first | rfl | simp [MS.q]⟩
theorem c_machine_store (Y : MHs C tT tx g m v o io ir ip K n0) (s : MS) (key : Bytes) (x : V) (ha : ascS s.puts) (hl : s.puts.length + 1 ≤ 68719476736) :
    ACalls Tryz.prog 120 [.ptr m 0, S key, .agg x.c] (K s.q) fun r h' => r = endU (storeS C key x s).1 ∧ h' = K (storeS C key x s).2.q := by
  refine acalls_introB Tryz.func120 rfl (by kernel_rfl) (by simp [Tryz.ntmps120]) ?_
  intro E hN hh hu hb hb' hua
  rw [Tryz.ntmps120] at hN
  refine awp_of_wpC _ _ _ ?_
  simp -dsimp [go_sem, hN]
  refine tcall_pure (c_keys_Valid key) ?_
  simp -dsimp [go_sem, hN]
  refine cnd (fun h0 => ?_) (fun h0 => ?_) <;> simp at h0
  · simp -dsimp [go_sem, hN]
    refine tcall (c_interp_abort 1004 _) ?_
    rintro r h' ⟨rfl, rfl⟩
    simp -dsimp [go_sem, hN]
    rw [storeS, if_pos h0]
    exact ⟨_, .refl _, K s.q, by simp [go_sem], by first | exact hwk.refl _ | exact hwk.app0 _ | simp [hwk.refl], by simp [Y.len], Y.und' _, by first | rfl | simp, by first | rfl | simp [MS.q]⟩
  rw [storeS, if_neg (by simp [h0])]
  simp -dsimp [go_sem, hN, Y.lm']
  refine tgcall_pure (c_Contains_S C.wr key) (by simp) ?_
  simp -dsimp [go_sem, hN]
  repeat refine ⟨by grind, ?_⟩
  refine cnd (fun h1 => ?_) (fun h1 => ?_) <;> simp at h1
  · simp -dsimp [go_sem, hN]
    refine tcall (c_interp_restart key _) ?_
    rintro r h' ⟨rfl, rfl⟩
    simp -dsimp [go_sem, hN]
    simp only [h1.1, h1.2, and_self, if_true]
    exact ⟨_, .refl _, K s.q, by simp [go_sem], by first | exact hwk.refl _ | exact hwk.app0 _ | simp [hwk.refl], by simp [Y.len], Y.und' _, by first | rfl | simp, by first | rfl | simp [MS.q]⟩
  have h1' : ¬ (C.all = false ∧ hasK C.wr key = false) := by rintro ⟨h2, h3⟩; have := h1 h2; rw [this] at h3; cases h3
  simp only [h1', if_false]
  simp -dsimp [go_sem, hN, Y.lm', Y.lip']
  refine tcall (c_with _ _ s.puts (Y.lip' s.q _) (by omega) key ha) ?_
  rintro r h' ⟨rfl, rfl⟩
  simp -dsimp [go_sem, hN, Y.sip', Y.lm', Y.smx']
  refine awp_drawQ 6 mixed (by kernel_rfl) (by kernel_rfl) ?_
  simp -dsimp [go_sem, hN, Y.lm', Y.lo', Y.len, Y.loc, Y.so']
  exact ⟨_, .refl _, K (MS.q { s with puts := withS s.puts key, own := kSet s.own key x }), by simp [go_sem], by first | exact hwk.refl _ | exact hwk.app0 _ | simp [hwk.refl], by simp [Y.len], Y.und' _, by first | rfl | simp, by first | rfl | simp [MS.q]⟩
end Go.Proofs.YtcmbmfmpelnimaaGreatDoor
