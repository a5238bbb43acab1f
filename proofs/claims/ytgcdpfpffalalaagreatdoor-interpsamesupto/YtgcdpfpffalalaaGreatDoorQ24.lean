/- InterpSames, second form, tied card. Same returns true exactly for effects that are equal in all fields. Condition. The arguments hold together at most 1048576 values and letters, and the tables of the library hold what the text of the program lays. -/
import Derived.Test.YtgcdpfpffalalaaGreatDoorRows
import Derived.KernelRfl
import Derived.Test.YtgcdpfpffalalaaGreatDoorCards
import Derived.Test.YtgcdpfpffalalaaGreatDoorTie
import Derived.ProofKit
import Derived.OpenShut
import Derived.Carry
import Derived.Deep.DeepHandedRow
import Derived.Lib.LaidTab
import Derived.Stop.LaidErr
import Derived.Test.YtgcdpfpffalalaaGreatDoorQ12
import Derived.Test.YtgcdpfpffalalaaGreatDoorQ17
import Derived.Test.YtgcdpfpffalalaaGreatDoorQ21
import Derived.Test.YtgcdpfpffalalaaGreatDoorQ23
set_option linter.all false

set_option linter.unusedSimpArgs false
set_option linter.unusedVariables false
set_option maxRecDepth 8000
set_option maxHeartbeats 2000000
namespace Go.Proofs.YtgcdpfpffalalaaGreatDoor
open Go Go.Abs Go.Cw

def bk : Bytes := ⟨#[107]⟩
def bn : Bytes := ⟨#[110]⟩
def bx : Bytes := ⟨#[120]⟩
def bX : Bytes := ⟨#[88]⟩
def addP : Proc := ⟨⟨#[97, 100, 100]⟩, [⟨bk, 2⟩, ⟨bn, 1⟩], [.mk 3 em 0 (.mk 3 0 bk []) (.mk 4 0 em [.mk 22 0 em [.mk 3 0 bk []], .mk 3 0 bn []]) [] []]⟩
theorem c_law15_add : APure Tryz.prog 38 [] (.agg addP.c) := by
  refine apure_introB Tryz.func38 rfl (by kernel_rfl) (by simp [Tryz.ntmps38]) rfl ?_
  intro E h hN hh hu hb
  rw [Tryz.ntmps38] at hN
  refine awp_of_wpC _ _ _ ?_
  simp -dsimp [go_sem, hN]
  exact ⟨rfl, rfl, rfl⟩
/-- a function that only computes over a heap with the table -/
theorem at_tab {tT : TypeId} {tx : Nat × Nat} {g : Nat} {f : FuncId} {args : List AV} {r : AV} {h : AHeap} (H : ∀ h, h[g]? = some (tabO tT tx) → ACalls Tryz.prog f args h fun e h' => e = .ret r ∧ h' = h) (hg : h[g]? = some (tabO tT tx)) : APureAt Tryz.prog f args r h := fun h' hs => H h' (hs g _ _ _ hg)
def exSt : List Pr := [⟨bx, vI 5⟩]
def exArgs : List V := [vS bx, vI 2]
def exBad : List V := [vS bX, vI 2]
def exWant : Eff := ⟨1, 0, [], [bx], [bx], [⟨bx, vI 7⟩], em, 1⟩
def exAgain : Eff := ⟨3, 0, [], [], [], [], bx, 1⟩
theorem ex1 : runS fmtI addP exArgs exSt ⟨false, [bx], [bx]⟩ = exWant := by kernel_rfl
theorem ex2 : runS fmtI addP exArgs exSt ⟨false, [], []⟩ = exAgain := by kernel_rfl
theorem ex3 : runS fmtI addP exBad exSt ⟨true, [], []⟩ = ⟨2, 1004, [], [], [], [], em, 1⟩ := by kernel_rfl
theorem ok_digit (k : Nat) (h : k < 10) : okB (UInt8.ofNat (48 + k)) = true := by
  have : ∀ k : Fin 10, okB (UInt8.ofNat (48 + k.val)) = true := by decide
  exact this ⟨k, h⟩
theorem ok_digits : ∀ (u : Nat), ∀ b ∈ Lib.decDigits u, okB b = true := by
  intro u
  induction u using Nat.strongRecOn with
  | ind u ih =>
    intro b hb
    rw [Lib.decDigits] at hb
    split at hb
    · rename_i h
      simp only [List.mem_singleton] at hb
      subst hb
      exact ok_digit _ h
    · rename_i h
      rw [List.mem_append] at hb
      rcases hb with hb | hb
      · exact ih (u / 10) (by omega) b hb
      · simp only [List.mem_singleton] at hb
        subst hb
        exact ok_digit _ (Nat.mod_lt _ (by decide))
theorem plain_itoa (n : Int) (hn : i64 n) : plainS (fmtI n) = true := by
  have hl := Lib.itoa_length_le n hn.1 hn.2
  unfold plainS
  rw [Bool.and_eq_true, decide_eq_true_eq, allL_iff]
  refine ⟨fun b hb => ?_, ?_⟩
  · have hb : b ∈ Lib.itoa n := by simpa [bl, fmtI] using hb
    unfold Lib.itoa at hb
    split at hb
    · rcases List.mem_cons.1 hb with rfl | hb
      · decide
      · exact ok_digits _ b hb
    · exact ok_digits _ b hb
  · show (((Lib.itoa n).toArray.size : Nat) : Int) ≤ 64
    rw [List.size_toArray]
    omega
theorem exIn (args : List V) (ha : ∀ v ∈ args, rngV v) : RunIn fmtI addP args exSt := by
  refine ⟨plain_itoa, ?_, ha, ?_⟩
  · intro t ht
    simp only [addP, List.mem_singleton] at ht
    subst ht
    have hz : i64 0 := ⟨by decide, by decide⟩
    have hk : rngX (.mk 3 0 bk []) := (rngX_iff _).2 ⟨⟨hz, by decide⟩, by simp [Ex.args]⟩
    have hn : rngX (.mk 3 0 bn []) := (rngX_iff _).2 ⟨⟨hz, by decide⟩, by simp [Ex.args]⟩
    have hg : rngX (.mk 22 0 em [.mk 3 0 bk []]) := (rngX_iff _).2 ⟨⟨hz, by decide⟩, by simp [Ex.args, hk]⟩
    refine (rngS_iff _).2 ⟨hk, (rngX_iff _).2 ⟨⟨hz, by decide⟩, by simp [Ex.args, hg, hn, St.b]⟩, by simp [St.body], by simp [St.els]⟩
  · intro q hq
    simp only [exSt, List.mem_singleton] at hq
    subst hq
    exact rng_vI ⟨by decide, by decide⟩
theorem exA (args : List V) (h : args = exArgs ∨ args = exBad) : ∀ v ∈ args, rngV v := by
  have h1 : rngV (vI 2) := rng_vI ⟨by decide, by decide⟩
  have h2 : ∀ s : Bytes, s.size ≤ 64 → rngV (vS s) := fun s hs => ⟨⟨by simp [vS], by simp [vS]⟩, by simp only [vS]; omega⟩
  rcases h with rfl | rfl
  · intro v hv
    simp only [exArgs, List.mem_cons, List.not_mem_nil, or_false] at hv
    rcases hv with rfl | rfl
    · exact h2 _ (by decide)
    · exact h1
  · intro v hv
    simp only [exBad, List.mem_cons, List.not_mem_nil, or_false] at hv
    rcases hv with rfl | rfl
    · exact h2 _ (by decide)
    · exact h1
section
variable {tT : TypeId} {tx : Nat × Nat} {g : Nat}
theorem c_ex1 : ∀ h, h[g]? = some (tabO tT tx) → ACalls Tryz.prog 9 [.agg addP.c, .slice (exArgs.map V.c), .slice (exSt.map Pr.c), .agg (Foot.c ⟨false, [bx], [bx]⟩)] h fun e h' => e = .ret (.agg exWant.c) ∧ h' = h := fun h hg => by
  have := c_interp_Run addP exArgs exSt ⟨false, [bx], [bx]⟩ h hg (exIn _ (exA _ (.inl rfl)))
  rwa [ex1] at this
theorem c_ex2 : ∀ h, h[g]? = some (tabO tT tx) → ACalls Tryz.prog 9 [.agg addP.c, .slice (exArgs.map V.c), .slice (exSt.map Pr.c), .agg (Foot.c ⟨false, [], []⟩)] h fun e h' => e = .ret (.agg exAgain.c) ∧ h' = h := fun h hg => by
  have := c_interp_Run addP exArgs exSt ⟨false, [], []⟩ h hg (exIn _ (exA _ (.inl rfl)))
  rwa [ex2] at this
theorem c_ex3 : ∀ h, h[g]? = some (tabO tT tx) → ACalls Tryz.prog 16 [.agg addP.c, .slice (exBad.map V.c), .slice (exSt.map Pr.c)] h fun e h' => e = .ret (.agg (Eff.c ⟨2, 1004, [], [], [], [], em, 1⟩)) ∧ h' = h := fun h hg => by
  have := c_interp_Free addP exBad exSt h hg (exIn _ (exA _ (.inr rfl)))
  rwa [ex3] at this
theorem c_sm1 : APure Tryz.prog 14 [.agg exWant.c, .agg exWant.c] (Bo true) := by
  have := c_ref15_Same exWant exWant
  rwa [show sameE exWant exWant = true by decide] at this
theorem c_sm2 : APure Tryz.prog 14 [.agg exAgain.c, .agg exAgain.c] (Bo true) := by
  have := c_ref15_Same exAgain exAgain
  rwa [show sameE exAgain exAgain = true by decide] at this
theorem c_law15_examples (h : AHeap) (hg : h[g]? = some (tabO tT tx)) : ACalls Tryz.prog 11 [] h fun r h' => r = .ret (Bo true) ∧ h' = h := by
  refine acalls_introB Tryz.func11 rfl (by kernel_rfl) (by simp [Tryz.ntmps11]) ?_
  intro E hN hh hu hb hb' hua
  rw [Tryz.ntmps11] at hN
  refine awp_of_wpC _ _ _ ?_
  have hgl : g < h.length := (List.getElem?_eq_some_iff.1 hg).1
  have hg' : ∀ l : AHeap, (h ++ l)[g]? = some (tabO tT tx) := fun l => by rw [List.getElem?_append_left hgl]; exact hg
  simp -dsimp [go_sem, hN]
  refine awp_drawQ 9 mixed (by kernel_rfl) (by kernel_rfl) ?_
  simp -dsimp [go_sem, hN]
  refine tdcall c_law15_add (by simp) ?_
  simp -dsimp [go_sem, hN]
  refine tdcall_at (fun _ => at_tab c_ex3 (hg' _)) (by simp) ?_
  simp -dsimp [go_sem, hN]
  refine awp_drawQ 16 mixed (by kernel_rfl) (by kernel_rfl) ?_
  simp -dsimp [go_sem, hN]
  refine tdcall c_law15_add (by simp) ?_
  simp -dsimp [go_sem, hN]
  refine tdcall_at (fun _ => at_tab c_ex1 (hg' _)) (by simp) ?_
  simp -dsimp [go_sem, hN]
  refine tdcall c_sm1 (by simp) ?_
  simp -dsimp [go_sem, hN]
  refine tdcall c_law15_add (by simp) ?_
  simp -dsimp [go_sem, hN]
  refine tdcall_at (fun _ => at_tab c_ex2 (hg' _)) (by simp) ?_
  simp -dsimp [go_sem, hN]
  refine tgcall_pure c_sm2 (by simp) ?_
  simp -dsimp [go_sem, hN]
  exact ⟨_, .refl _, h, rfl, hwk.app0 _, Nat.le_refl _, hu, rfl, rfl⟩
end
end Go.Proofs.YtgcdpfpffalalaaGreatDoor

set_option linter.unusedSimpArgs false
set_option linter.unusedVariables false
set_option maxRecDepth 8000
set_option maxHeartbeats 2000000
namespace Go.Proofs.YtgcdpfpffalalaaGreatDoor
open Go Go.Abs Go.Cw

theorem sameL_refl {α : Type} {f : α → α → Bool} (hf : ∀ x, f x x = true) : ∀ l, sameL f l l = true
  | [] => rfl
  | x :: l => by simp [sameL, hf, sameL_refl hf l]
theorem sameE_refl (e : Eff) : sameE e e = true := by
  simp [sameE, sameL_refl (f := eqVal) (fun x => by simp [eqVal]), sameL_refl (f := eqB) (fun x => by simp [eqB]), sameL_refl (f := eqP) (fun x => by simp [eqP, eqVal])]
variable {tT : TypeId} {tx : Nat × Nat} {g : Nat}
theorem c_law15_InterpSames (a b : Eff) (h : AHeap) (hg : h[g]? = some (tabO tT tx)) : ACalls Tryz.prog 7 [.agg a.c, .agg b.c] h fun r h' => r = .ret (Bo true) ∧ h' = h := by
  refine acalls_introB Tryz.func7 rfl (by kernel_rfl) (by simp [Tryz.ntmps7]) ?_
  intro E hN hh hu hb hb' hua
  rw [Tryz.ntmps7] at hN
  refine awp_of_wpC _ _ _ ?_
  have hgl : g < h.length := (List.getElem?_eq_some_iff.1 hg).1
  have hg' : ∀ l : AHeap, (h ++ l)[g]? = some (tabO tT tx) := fun l => by rw [List.getElem?_append_left hgl]; exact hg
  have sa := c_interp_Same a a
  have sb := c_interp_Same b b
  rw [sameE_refl] at sa sb
  simp -dsimp [go_sem, hN]
  refine awp_drawQ 15 mixed (by kernel_rfl) (by kernel_rfl) ?_
  simp -dsimp [go_sem, hN]
  refine tdcall (c_interp_Same a b) (by simp) ?_
  simp -dsimp [go_sem, hN]
  refine tdcall (c_ref15_Same a b) (by simp) ?_
  simp -dsimp [go_sem, hN]
  refine tdcall sa (by simp) ?_
  simp -dsimp [go_sem, hN]
  refine tgcall_pure sb (by simp) ?_
  simp -dsimp [go_sem, hN]
  refine tgcall_true (by simp) ((c_law15_examples _ (hg' _)).mono ?_)
  rintro r h' ⟨rfl, rfl⟩
  simp -dsimp [go_sem, hN]
  exact ⟨_, .refl _, h, by simp [go_sem], hwk.app0 _, Nat.le_refl _, hu, rfl, rfl⟩
end Go.Proofs.YtgcdpfpffalalaaGreatDoor

set_option linter.unusedSimpArgs false
set_option linter.unusedVariables false
set_option maxRecDepth 8000
namespace Go.Proofs.YtgcdpfpffalalaaGreatDoor
open Go Go.Abs Go.Cw

section
variable {H : Type} {enc : TypeId × Value → H} {w : World}
theorem bulk_part {d : DataW H} {l : List (DataW H)} (h : d ∈ l) : Rows.uptoBulk d ≤ Rows.uptoBulkAll l := by
  induction l with
  | nil => cases h
  | cons x r ih =>
    simp only [Rows.uptoBulkAll]
    rcases List.mem_cons.1 h with rfl | e
    · omega
    · have := ih e; omega
theorem bulk_one (d : DataW H) : 1 ≤ Rows.uptoBulk d := by
  cases d with
  | lit l => cases l <;> simp [Rows.uptoBulk]
  | nil => simp [Rows.uptoBulk]
  | ptr d => simp [Rows.uptoBulk]
  | slice elems spare => simp [Rows.uptoBulk]
  | agg parts => simp [Rows.uptoBulk]
  | iface t d => simp [Rows.uptoBulk]
  | map entries => simp [Rows.uptoBulk]
  | held h => simp [Rows.uptoBulk]
theorem bulk_len (l : List (DataW H)) : l.length ≤ Rows.uptoBulkAll l := by
  induction l with
  | nil => simp [Rows.uptoBulkAll]
  | cons x r ih => have := bulk_one x; simp only [Rows.uptoBulkAll, List.length_cons]; omega
theorem bulkB : Bulk (H := H) Rows.uptoBulk where
  str := fun s => by simp [Rows.uptoBulk]
  len := fun e s => by have := bulk_len e; simp only [Rows.uptoBulk]; omega
  sl := fun e s x hx => by have := bulk_part hx; simp only [Rows.uptoBulk]; omega
  agg := fun ps x hx => by have := bulk_part hx; simp only [Rows.uptoBulk]; omega

/-- the bound of the second form -/
abbrev UB : Nat := 1048576
variable (enc w) in
abbrev RD (n : Nat) (t : TypeId) (Q : List AV → Prop) : Prop := Rd enc Tryz.prog w Rows.uptoBulk UB n t Q
theorem ub_le : UB ≤ 68719476736 := by decide

/-! what is read, as data -/
def rOf {α : Type} (c : α → List AV) (good : α → Prop) (xs : List AV) : Prop := ∃ a, xs = c a ∧ good a
def gStr (s : Bytes) : Prop := s.size ≤ UB
def gSl {α : Type} (good : α → Prop) (l : List α) : Prop := l.length ≤ UB ∧ ∀ a ∈ l, good a
def qOf {α : Type} (c : α → List AV) (good : α → Prop) (xs : List AV) : Prop := rOf (fun l : List α => [.slice (l.map c)]) (gSl good) xs
theorem rd_of {n : Nat} {t e : TypeId} (ht : Tryz.prog.underlying t = some (.slice e)) {sz : Nat} (hsz : Tryz.prog.cellsOf e = sz) (h0 : 0 < sz) {α : Type} {c : α → List AV} {good : α → Prop} (hl : ∀ a, (c a).length = sz) (he : RD enc w n e (rOf c good)) : RD enc w n t (qOf c good) := by
  refine (rd_slice bulkB ub_le ht hsz h0 (by rintro _ ⟨a, rfl, _⟩; exact hl a) he).mono ?_
  rintro _ ⟨rows, rfl, hlen, hq⟩
  obtain ⟨l, rfl, hg⟩ := rows_list hq
  exact ⟨l, rfl, by simpa using hlen, hg⟩
theorem len_of {α : Type} {c : α → List AV} {good : α → Prop} : ∀ xs, qOf c good xs → xs.length = 1 := by rintro _ ⟨l, rfl, _⟩; rfl
theorem rd_I {n : Nat} : RD enc w n 3 (qInt .i64) := rd_int (by decide) Tryz.underlying3
theorem rd_I64 {n : Nat} : RD enc w n 2 (qInt .i64) := rd_int (by decide) Tryz.underlying2
theorem rd_S {n : Nat} : RD enc w n 9 (qStr UB) := rd_str bulkB ub_le Tryz.underlying9
theorem rd_B {n : Nat} : RD enc w n 4 qBool := rd_bool Tryz.underlying4
theorem i64_of {z : Int} (h : IntKind.i64.min ≤ z ∧ z ≤ IntKind.i64.max) : i64 z := ⟨h.1, h.2⟩

theorem rd_V : ∀ {n : Nat}, RD enc w n 41 (rOf V.c rngV)
  | 0 => Rd.zero
  | n + 1 => by
    refine (rd_struct (Qs := [qInt .i64, qInt .i64, qStr UB]) bulkB Tryz.underlying41 ?_).mono ?_
    · simp only [Flds]
      exact ⟨(by first | rfl | trivial), 1, by kernel_rfl, rd_I, len_int, (by first | rfl | trivial), 1, by kernel_rfl, rd_I64, len_int, (by first | rfl | trivial), 1, by kernel_rfl, rd_S, len_str, by first | kernel_rfl | trivial⟩
    · rintro _ ⟨ps, hp0, rfl⟩
      obtain ⟨_, _, rfl, ⟨k, rfl, _⟩, hp1⟩ := parts_cons hp0
      obtain ⟨_, _, rfl, ⟨z, rfl, hz⟩, hp2⟩ := parts_cons hp1
      obtain ⟨_, _, rfl, ⟨s, rfl, hs⟩, hp3⟩ := parts_cons hp2
      obtain rfl := parts_nil hp3
      exact ⟨⟨k, z, s⟩, rfl, i64_of hz, by show s.size ≤ _; unfold UB at hs; omega⟩
def gP (p : Pr) : Prop := p.key.size ≤ UB ∧ rngV p.v
theorem rd_P : ∀ {n : Nat}, RD enc w n 44 (rOf Pr.c gP)
  | 0 => Rd.zero
  | n + 1 => by
    refine (rd_struct (Qs := [qStr UB, rOf V.c rngV]) bulkB Tryz.underlying44 ?_).mono ?_
    · simp only [Flds]
      exact ⟨(by first | rfl | trivial), 1, by kernel_rfl, rd_S, len_str, (by first | rfl | trivial), 3, by kernel_rfl, rd_V, by rintro _ ⟨v, rfl, _⟩; rfl, by first | kernel_rfl | trivial⟩
    · rintro _ ⟨ps, hp0, rfl⟩
      obtain ⟨_, _, rfl, ⟨k, rfl, hk⟩, hp1⟩ := parts_cons hp0
      obtain ⟨_, _, rfl, ⟨v, rfl, hv⟩, hp2⟩ := parts_cons hp1
      obtain rfl := parts_nil hp2
      exact ⟨⟨k, v⟩, rfl, hk, hv⟩
theorem rd_Vs {n : Nat} : RD enc w n 26 (qOf V.c rngV) := rd_of Tryz.underlying26 (sz := 3) (by kernel_rfl) (by decide) (fun _ => rfl) rd_V
theorem rd_Ps {n : Nat} : RD enc w n 32 (qOf Pr.c gP) := rd_of Tryz.underlying32 (sz := 4) (by kernel_rfl) (by decide) (fun _ => rfl) rd_P
theorem rd_Ss {n : Nat} : RD enc w n 27 (qOf sRow gStr) := rd_of Tryz.underlying27 (sz := 1) (by kernel_rfl) (by decide) (fun _ => rfl) (rd_S.mono (by rintro _ ⟨s, rfl, hs⟩; exact ⟨s, rfl, hs⟩))
theorem rd_E : ∀ (n : Nat), RD enc w n 58 (rOf Ex.c rngX)
  | 0 => Rd.zero
  | n + 1 => by
    have hs : RD enc w n 56 (qOf Ex.c rngX) := rd_of Tryz.underlying56 (sz := 4) (by kernel_rfl) (by decide) (fun e => by rw [Ex.c_eq]; rfl) (rd_E n)
    refine (rd_struct (Qs := [qInt .i64, qInt .i64, qStr UB, qOf Ex.c rngX]) bulkB Tryz.underlying58 ?_).mono ?_
    · simp only [Flds]
      exact ⟨(by first | rfl | trivial), 1, by kernel_rfl, rd_I, len_int, (by first | rfl | trivial), 1, by kernel_rfl, rd_I64, len_int, (by first | rfl | trivial), 1, by kernel_rfl, rd_S, len_str, (by first | rfl | trivial), 1, by kernel_rfl, hs, len_of, by first | kernel_rfl | trivial⟩
    · rintro _ ⟨ps, hp0, rfl⟩
      obtain ⟨_, _, rfl, ⟨k, rfl, _⟩, hp1⟩ := parts_cons hp0
      obtain ⟨_, _, rfl, ⟨z, rfl, hz⟩, hp2⟩ := parts_cons hp1
      obtain ⟨_, _, rfl, ⟨s, rfl, hs⟩, hp3⟩ := parts_cons hp2
      obtain ⟨_, _, rfl, ⟨l, rfl, hl⟩, hp4⟩ := parts_cons hp3
      obtain rfl := parts_nil hp4
      refine ⟨.mk k z s l, by rw [Ex.c_eq]; rfl, (rngX_iff _).2 ⟨⟨i64_of hz, by show s.size ≤ _; unfold UB at hs; omega⟩, hl.2⟩⟩
theorem rd_T : ∀ (n : Nat), RD enc w n 103 (rOf St.c rngS)
  | 0 => Rd.zero
  | n + 1 => by
    have hs : RD enc w n 23 (qOf St.c rngS) := rd_of Tryz.underlying23 (sz := 13) (by kernel_rfl) (by decide) (fun e => by rw [St.c_eq]; rfl) (rd_T n)
    refine (rd_struct (Qs := [qInt .i64, qStr UB, qInt .i64, rOf Ex.c rngX, rOf Ex.c rngX, qOf St.c rngS, qOf St.c rngS]) bulkB Tryz.underlying103 ?_).mono ?_
    · simp only [Flds]
      exact ⟨(by first | rfl | trivial), 1, by kernel_rfl, rd_I, len_int, (by first | rfl | trivial), 1, by kernel_rfl, rd_S, len_str, (by first | rfl | trivial), 1, by kernel_rfl, rd_I, len_int, (by first | rfl | trivial), 4, by kernel_rfl, rd_E n, by rintro _ ⟨e, rfl, _⟩; rw [Ex.c_eq]; rfl, (by first | rfl | trivial), 4, by kernel_rfl, rd_E n, by rintro _ ⟨e, rfl, _⟩; rw [Ex.c_eq]; rfl, (by first | rfl | trivial), 1, by kernel_rfl, hs, len_of, (by first | rfl | trivial), 1, by kernel_rfl, hs, len_of, by first | kernel_rfl | trivial⟩
    · rintro _ ⟨ps, hp0, rfl⟩
      obtain ⟨_, _, rfl, ⟨k, rfl, _⟩, hp1⟩ := parts_cons hp0
      obtain ⟨_, _, rfl, ⟨s, rfl, hs⟩, hp2⟩ := parts_cons hp1
      obtain ⟨_, _, rfl, ⟨m, rfl, _⟩, hp3⟩ := parts_cons hp2
      obtain ⟨_, _, rfl, ⟨a, rfl, ha⟩, hp4⟩ := parts_cons hp3
      obtain ⟨_, _, rfl, ⟨b, rfl, hb⟩, hp5⟩ := parts_cons hp4
      obtain ⟨_, _, rfl, ⟨l, rfl, hl⟩, hp6⟩ := parts_cons hp5
      obtain ⟨_, _, rfl, ⟨l', rfl, hl'⟩, hp7⟩ := parts_cons hp6
      obtain rfl := parts_nil hp7
      refine ⟨.mk k s m a b l l', ?_, (rngS_iff _).2 ⟨ha, hb, hl.2, hl'.2⟩⟩
      simp [St.c, St.cl_map]
theorem rd_Ts {n : Nat} : RD enc w n 23 (qOf St.c rngS) := rd_of Tryz.underlying23 (sz := 13) (by kernel_rfl) (by decide) (fun e => by rw [St.c_eq]; rfl) (rd_T n)
theorem rd_M : ∀ {n : Nat}, RD enc w n 68 (rOf Param.c fun p => gStr p.name)
  | 0 => Rd.zero
  | n + 1 => by
    refine (rd_struct (Qs := [qStr UB, qInt .i64]) bulkB Tryz.underlying68 ?_).mono ?_
    · simp only [Flds]
      exact ⟨(by first | rfl | trivial), 1, by kernel_rfl, rd_S, len_str, (by first | rfl | trivial), 1, by kernel_rfl, rd_I, len_int, by first | kernel_rfl | trivial⟩
    · rintro _ ⟨ps, hp0, rfl⟩
      obtain ⟨_, _, rfl, ⟨s, rfl, hs⟩, hp1⟩ := parts_cons hp0
      obtain ⟨_, _, rfl, ⟨k, rfl, _⟩, hp2⟩ := parts_cons hp1
      obtain rfl := parts_nil hp2
      exact ⟨⟨s, k⟩, rfl, hs⟩
theorem rd_Ms {n : Nat} : RD enc w n 22 (qOf Param.c fun p => gStr p.name) := rd_of Tryz.underlying22 (sz := 2) (by kernel_rfl) (by decide) (fun _ => rfl) rd_M
def gProc (p : Proc) : Prop := gStr p.name ∧ gSl (fun x : Param => gStr x.name) p.params ∧ gSl rngS p.body
theorem rd_Proc : ∀ {n : Nat}, RD enc w n 25 (rOf Proc.c gProc)
  | 0 => Rd.zero
  | n + 1 => by
    refine (rd_struct (Qs := [qStr UB, qOf Param.c fun p => gStr p.name, qOf St.c rngS]) bulkB Tryz.underlying25 ?_).mono ?_
    · simp only [Flds]
      exact ⟨(by first | rfl | trivial), 1, by kernel_rfl, rd_S, len_str, (by first | rfl | trivial), 1, by kernel_rfl, rd_Ms, len_of, (by first | rfl | trivial), 1, by kernel_rfl, rd_Ts, len_of, by first | kernel_rfl | trivial⟩
    · rintro _ ⟨ps, hp0, rfl⟩
      obtain ⟨_, _, rfl, ⟨s, rfl, hs⟩, hp1⟩ := parts_cons hp0
      obtain ⟨_, _, rfl, ⟨l, rfl, hl⟩, hp2⟩ := parts_cons hp1
      obtain ⟨_, _, rfl, ⟨b, rfl, hb⟩, hp3⟩ := parts_cons hp2
      obtain rfl := parts_nil hp3
      exact ⟨⟨s, l, b⟩, rfl, hs, hl, hb⟩
def gFoot (f : Foot) : Prop := gSl gStr f.reads ∧ gSl gStr f.writes
theorem rd_Foot : ∀ {n : Nat}, RD enc w n 29 (rOf Foot.c gFoot)
  | 0 => Rd.zero
  | n + 1 => by
    refine (rd_struct (Qs := [qBool, qOf sRow gStr, qOf sRow gStr]) bulkB Tryz.underlying29 ?_).mono ?_
    · simp only [Flds]
      exact ⟨(by first | rfl | trivial), 1, by kernel_rfl, rd_B, len_bool, (by first | rfl | trivial), 1, by kernel_rfl, rd_Ss, len_of, (by first | rfl | trivial), 1, by kernel_rfl, rd_Ss, len_of, by first | kernel_rfl | trivial⟩
    · rintro _ ⟨ps, hp0, rfl⟩
      obtain ⟨_, _, rfl, ⟨b, rfl⟩, hp1⟩ := parts_cons hp0
      obtain ⟨_, _, rfl, ⟨l, rfl, hl⟩, hp2⟩ := parts_cons hp1
      obtain ⟨_, _, rfl, ⟨l', rfl, hl'⟩, hp3⟩ := parts_cons hp2
      obtain rfl := parts_nil hp3
      exact ⟨⟨b, l, l'⟩, rfl, hl, hl'⟩
structure gEff (e : Eff) : Prop where
  out : gSl rngV e.out
  reads : gSl gStr e.reads
  puts : gSl gStr e.puts
  writes : gSl gP e.writes
  miss : gStr e.miss
def qOut (xs : List AV) : Prop := ∃ s c l, xs = [I s, I c, .slice (l.map V.c)] ∧ gSl rngV l
theorem rd_Out : ∀ {n : Nat}, RD enc w n 34 qOut
  | 0 => Rd.zero
  | n + 1 => by
    refine (rd_struct (Qs := [qInt .i64, qInt .i64, qOf V.c rngV]) bulkB Tryz.underlying34 ?_).mono ?_
    · simp only [Flds]
      exact ⟨(by first | rfl | trivial), 1, by kernel_rfl, rd_I, len_int, (by first | rfl | trivial), 1, by kernel_rfl, rd_I, len_int, (by first | rfl | trivial), 1, by kernel_rfl, rd_Vs, len_of, by first | kernel_rfl | trivial⟩
    · rintro _ ⟨ps, hp0, rfl⟩
      obtain ⟨_, _, rfl, ⟨s, rfl, _⟩, hp1⟩ := parts_cons hp0
      obtain ⟨_, _, rfl, ⟨c, rfl, _⟩, hp2⟩ := parts_cons hp1
      obtain ⟨_, _, rfl, ⟨l, rfl, hl⟩, hp3⟩ := parts_cons hp2
      obtain rfl := parts_nil hp3
      exact ⟨s, c, l, rfl, hl⟩
theorem rd_Eff : ∀ {n : Nat}, RD enc w n 36 (rOf Eff.c gEff)
  | 0 => Rd.zero
  | n + 1 => by
    refine (rd_struct (Qs := [qOut, qOf sRow gStr, qOf sRow gStr, qOf Pr.c gP, qStr UB, qInt .i64]) bulkB Tryz.underlying36 ?_).mono ?_
    · simp only [Flds]
      exact ⟨(by first | rfl | trivial), 3, by kernel_rfl, rd_Out, by rintro _ ⟨s, c, l, rfl, _⟩; rfl, (by first | rfl | trivial), 1, by kernel_rfl, rd_Ss, len_of, (by first | rfl | trivial), 1, by kernel_rfl, rd_Ss, len_of, (by first | rfl | trivial), 1, by kernel_rfl, rd_Ps, len_of, (by first | rfl | trivial), 1, by kernel_rfl, rd_S, len_str, (by first | rfl | trivial), 1, by kernel_rfl, rd_I, len_int, by first | kernel_rfl | trivial⟩
    · rintro _ ⟨ps, hp0, rfl⟩
      obtain ⟨_, _, rfl, ⟨s, c, l, rfl, hl⟩, hp1⟩ := parts_cons hp0
      obtain ⟨_, _, rfl, ⟨a, rfl, ha⟩, hp2⟩ := parts_cons hp1
      obtain ⟨_, _, rfl, ⟨b, rfl, hb⟩, hp3⟩ := parts_cons hp2
      obtain ⟨_, _, rfl, ⟨v, rfl, hv⟩, hp4⟩ := parts_cons hp3
      obtain ⟨_, _, rfl, ⟨m, rfl, hm⟩, hp5⟩ := parts_cons hp4
      obtain ⟨_, _, rfl, ⟨k, rfl, _⟩, hp6⟩ := parts_cons hp5
      obtain rfl := parts_nil hp6
      exact ⟨⟨s, c, l, a, b, v, m, k⟩, rfl, hl, ha, hb, hv, hm⟩
end
end Go.Proofs.YtgcdpfpffalalaaGreatDoor

set_option linter.unusedSimpArgs false
set_option linter.unusedVariables false
set_option maxRecDepth 8000
namespace Go.Proofs.YtgcdpfpffalalaaGreatDoor
open Go Go.Abs Go.Cw Go.ChangeShapes Go.WideShapes Go.ChangeAt Go.RowKit

theorem laidOut : laidOutB Tryz.prog = true := by kernel_rfl
theorem ownK : ownKnob Tryz.prog.godebug = none := by kernel_rfl
abbrev laidL : List (String × DataW Unit) := [("math/bits.deBruijn32tab", Rows.laid_math_bits_deBruijn32tab), ("math/bits.deBruijn64tab", Rows.laid_math_bits_deBruijn64tab), ("internal/strconv.uint64pow10", Rows.laid_internal_strconv_uint64pow10)]
abbrev gTab : Nat := 0
theorem table {W : World} (h : laidMetH Tryz.prog laidL W) : Lib.TabIs Tryz.prog W "internal/strconv.uint64pow10" .u64 Lib.pow10Tab :=
  Lib.tabIs_of_head (rest := []) (g := gTab) (n := 20) (by kernel_rfl) (by kernel_rfl) Tryz.underlying246 Tryz.underlying165 (by kernel_rfl) (by kernel_rfl) (laidMet.tail (laidMet.tail (show laidMet Tryz.prog laidL W from h)))
theorem table_heap {W : World} (h : laidMetH Tryz.prog laidL W) : ∃ T x, W.heap[gTab]? = some (.cells tabV T x) := by
  have h1 := table h
  unfold Lib.TabIs World.var? at h1
  rw [show Tryz.prog.globalNamed "internal/strconv.uint64pow10" = some gTab by kernel_rfl] at h1
  simp only [Option.bind_some] at h1
  split at h1
  · rename_i cs T x hx
    cases h1
    exact ⟨T, x, hx⟩
  · cases h1
theorem tab_u64 : ∀ (j : Nat) (v : Value), tabV[j]? = some v → ∃ n, v = .int .u64 n := by
  intro j v hv
  unfold tabV at hv
  have : (Lib.pow10Tab.map fun z => Value.int .u64 z)[j]? = some v := by simpa using hv
  rw [List.getElem?_map, Option.map_eq_some_iff] at this
  obtain ⟨z, _, rfl⟩ := this
  exact ⟨z, rfl⟩
/-- the cells of a list of numbers -/
def putTab (zs : List Value) : Obj → Obj
  | .cells _ t fr => .cells zs.toArray t fr
  | o => o
def tabVals (d : DataW Unit) : List Value := match d with
  | .agg ps => ps.map fun | .lit (.int k n) => .int k n | _ => undef
  | _ => []
/-- a world in which the tables hold what their initialisers lay -/
noncomputable def laidWorld (os : Os) : World :=
  { World.holding Tryz.prog os ⟨#[], #[], []⟩ with heap := (((World.holding Tryz.prog os ⟨#[], #[], []⟩).heap.modify gTab (putTab (tabVals Rows.laid_internal_strconv_uint64pow10))).modify 2 (putTab (tabVals Rows.laid_math_bits_deBruijn32tab))).modify 3 (putTab (tabVals Rows.laid_math_bits_deBruijn64tab)) }

section
variable {H : Type} {enc : TypeId × Value → H} {W : World} {base : Nat}
theorem okWide_struct {t : TypeId} {fs : Array Field} (ht : Tryz.prog.underlying t = some (.struct fs)) {v : Value} (h : Value.okWide Tryz.prog W .any base t v) : ∃ cs, v = .agg cs := by
  unfold Value.okWide at h
  rw [ht] at h
  obtain ⟨cs, rfl, _⟩ := h
  exact ⟨cs, rfl⟩
theorem okWide_slice {t e : TypeId} (ht : Tryz.prog.underlying t = some (.slice e)) {v : Value} (h : Value.okWide Tryz.prog W .any base t v) : v.cells = #[v] := by
  unfold Value.okWide at h
  rw [ht] at h
  simp only at h
  unfold Cell.okWide at h
  rw [ht] at h
  cases v <;> first | rfl | skip
  unfold Cell.ok at h
  rw [ht] at h
  exact h.elim
/-- an argument of a struct type -/
theorem arg_struct {t : TypeId} {fs : Array Field} (ht : Tryz.prog.underlying t = some (.struct fs)) {v : Value} {d : DataW H} {ps : List MemPlace} (hv : Value.okWide Tryz.prog W .any base t v) (h : DataW.Trod enc Tryz.prog W 0 (fun _ => true) true t v d ps)
    {α : Type} {c : α → List AV} {good : α → Prop} (hr : ∀ n, RD enc W n t (rOf c good)) (hb : Rows.uptoBulk d ≤ UB) : ∃ a, Rel (ctxR W gTab) (.agg (c a)) v ∧ good a := by
  obtain ⟨cs, rfl⟩ := okWide_struct ht hv
  obtain ⟨fuel, hf⟩ := h
  obtain ⟨_, hd, a, rfl, hg⟩ := hr fuel fuel _ _ _ (Nat.le_refl _) hf hb
  exact ⟨a, rel_agg hd, hg⟩
/-- an argument of a slice type -/
theorem arg_slice {t e : TypeId} (ht : Tryz.prog.underlying t = some (.slice e)) {v : Value} {d : DataW H} {ps : List MemPlace} (hv : Value.okWide Tryz.prog W .any base t v) (h : DataW.Trod enc Tryz.prog W 0 (fun _ => true) true t v d ps)
    {α : Type} {c : α → List AV} {good : α → Prop} (hr : ∀ n, RD enc W n t (qOf c good)) (hb : Rows.uptoBulk d ≤ UB) : ∃ l : List α, Rel (ctxR W gTab) (.slice (l.map c)) v ∧ gSl good l := by
  obtain ⟨fuel, hf⟩ := h
  rw [okWide_slice ht hv] at hf
  obtain ⟨_, hd, l, rfl, hg⟩ := hr fuel fuel _ _ _ (Nat.le_refl _) hf hb
  exact ⟨l, rel_one hd, hg⟩
end
end Go.Proofs.YtgcdpfpffalalaaGreatDoor

set_option linter.unusedSimpArgs false
set_option linter.unusedVariables false
set_option maxRecDepth 100000
namespace Go.Proofs.YtgcdpfpffalalaaGreatDoor.interpSames
open Go Go.Abs Go.Cw Go.ChangeShapes Go.WideShapes Go.ChangeAt Go.RowKit

theorem contract (H : Type) (enc : TypeId × Value → H) (W : World) (base : Nat) (args : Array Value) (ds gs : List (DataW H)) (before : List MemPlace)
    (hval : ∀ (j : Nat) t v, Tryz.f7.params[j]? = some t → args[j]? = some v → Value.okWide Tryz.prog W .any base t v)
    (hW : DataW.Whole enc Tryz.prog Tryz.f7.params.toList Rows.interpSamesSpec.vars false W args.toList ds gs before) (hk : Rows.uptoSmall H (ds ++ gs) = true) (hL : laidMetH Tryz.prog laidL W) :
    Calls Tryz.prog 7 args W fun e W' => ∃ v, e = .returned v ∧ Rows.interpSamesSpec.post enc Tryz.prog Tryz.f7 false true false false W args v W' := by
  have hW' := hW
  obtain ⟨p, q, hA0, hV, rfl, hfz, hnd⟩ := hW
  have hA : DataW.TrodAll enc Tryz.prog W 0 (fun _ => true) true Tryz.f7.params.toList args.toList ds p := hA0
  rw [Tryz.params7] at hA hval
  obtain ⟨v0, vs0, d0, ds0, p0, q0, hargs, rfl, rfl, h0, r0⟩ := trodAll_cons hA
  obtain ⟨v1, vs1, d1, ds1, p1, q1, rfl, rfl, rfl, h1, r1⟩ := trodAll_cons r0
  obtain ⟨rfl, rfl, rfl⟩ := trodAll_nil r1
  obtain rfl : args = #[v0, v1] := by cases args; simp_all
  obtain ⟨rfl, rfl⟩ := trodVars_none hV
  have hbk : Rows.uptoBulkAll [d0, d1] ≤ UB := of_decide_eq_true (by simpa [Rows.uptoSmall] using hk)
  obtain ⟨a, ra, ga⟩ := arg_struct Tryz.underlying36 (hval 0 _ v0 rfl rfl) h0 (fun n => rd_Eff) (by simp only [Rows.uptoBulkAll] at hbk; omega)
  obtain ⟨b, rb, gb⟩ := arg_struct Tryz.underlying36 (hval 1 _ v1 rfl rfl) h1 (fun n => rd_Eff) (by simp only [Rows.uptoBulkAll] at hbk; omega)
  obtain ⟨T, x, hT⟩ := table_heap hL
  have hr : RelL (ctxR W gTab) [.agg a.c, .agg b.c] #[v0, v1] := ⟨rfl, fun j x v hx hv => by
    match j with
    | 0 => simp at hx hv; subst hx; subst hv; exact ra
    | 1 => simp at hx hv; subst hx; subst hv; exact rb
    | j + 2 => simp at hx⟩
  refine (calls_of_acalls hT tab_u64 hr (c_law15_InterpSames (tT := T) (tx := x) (g := 0) a b [tabO T x] rfl)).mono ?_
  rintro e W' ⟨rfl, hb⟩
  have hlt0 : ∀ x ∈ p0, x.block < W.heap.size := fun x hx => by simpa using hW'.lt x (by simp [hx])
  have hlt1 : ∀ x ∈ p1, x.block < W.heap.size := fun x hx => by simpa using hW'.lt x (by simp [hx])
  refine ⟨_, rfl, [d0, d1], [], _, [], _, [], hW', trodAll_cons_mk (shut_bool Tryz.underlying4 _) trodAll_mk0, trodAll_cons_mk (Below.trod laidOut (by kernel_rfl) (of_decide_eq_true (by kernel_rfl)) h0 hb hlt0) (trodAll_cons_mk (Below.trod laidOut (by kernel_rfl) (of_decide_eq_true (by kernel_rfl)) h1 hb hlt1) trodAll_mk0), rfl, hb.frame _, fun h => by cases h⟩

abbrev wEff : Value := .agg #[.int .i64 0, .int .i64 0, .slice none 0 0, .slice none 0 0, .slice none 0 0, .slice none 0 0, .string ⟨#[]⟩, .int .i64 0]
abbrev wArgs : Array Value := #[wEff, wEff]
abbrev rEff {H : Type} : DataW H := .agg [.agg [.lit (.int .i64 0), .lit (.int .i64 0), .nil], .nil, .nil, .nil, .lit (.string []), .lit (.int .i64 0)]
theorem laid_met (os : Os) : laidMet Tryz.prog Rows.interpSamesUptoRow.laid ((laidWorld os).forCall (fun _ _ => 0) ⟨#[], wArgs, []⟩).memory := laidMet_of_run' 8 (by kernel_rfl) (by kernel_rfl)
theorem reads (os : Os) {H : Type} (enc : TypeId × Value → H) : ∃ places, DataW.whole enc Tryz.prog ((laidWorld os).forCall (fun _ _ => 0) ⟨#[], wArgs, []⟩).memory Tryz.f7.params.toList Rows.interpSamesSpec.vars false wArgs.toList 8 = some ([rEff, rEff], [], places) := ⟨[], by kernel_rfl⟩
theorem lifted (os : Os) (started : os.Started) (H : Type) (enc : TypeId × Value → H) (F : Stop.Interp) :
    ReturnsInHanded {} Tryz.checked os 7 .any ((Rows.OpenSpec.upto Rows.interpSamesSpec).preRow enc Tryz.prog Tryz.f7 Rows.interpSamesUptoRow.domain false Rows.interpSamesUptoRow.laid) (((Rows.OpenSpec.upto Rows.interpSamesSpec).at F).post enc Tryz.prog Tryz.f7 false true false false) := by
  obtain ⟨places, hx⟩ := reads os enc
  refine returnsInHanded_of_row (C := Tryz.checked) (s := Rows.OpenSpec.upto Rows.interpSamesSpec) ownK started (by kernel_rfl) Tryz.func7
    (witness_row_at (enc := enc) (C := Tryz.checked) false (laidWorld os) wArgs rfl (by kernel_rfl) (by kernel_rfl) (by kernel_rfl)
      (OpenSpec.preRow_of_cond 8 hx (by kernel_rfl) (fun k hk => by cases hk; kernel_rfl) (by kernel_rfl) (laid_met os))) ?_
  intro W base args ds gs before hval hW _ hcond _ hL _ _
  exact contract H enc W base args ds gs before hval hW (hcond _ rfl) hL
theorem said : Rows.InterpSamesUptoSaid :=
  OpenClaim.holds_of_cond 7 Tryz.f7 rfl rfl rfl rfl rfl rfl rfl ⟨rfl, rfl, rfl, rfl, rfl⟩ rfl rfl rfl rfl rfl (by kernel_rfl) Tryz.func7 (by kernel_rfl)
    (of_decide_eq_true (by kernel_rfl)) (by unfold Func.isWrapper; first | (rw [if_pos (by decide +kernel)]; kernel_rfl) | (rw [if_neg (by decide +kernel)]; exact ⟨rfl, rfl⟩))
    (fun os started H enc _ F => by rw [OpenClaim.pre_eq_preRow]; exact lifted os started H enc F)
theorem plain (f : FuncId) (fn : Func) (hf : Tryz.pinned.checked.prog.funcNamed "clockwork/clockworklaw15.InterpSames" = some f) (hfn : Tryz.pinned.checked.prog.funcs[f]? = some fn) :
    true = Tryz.pinned.checked.prog.looks [] ∧ ∀ (j : Nat) t, fn.params[j]? = some t → Tryz.pinned.checked.prog.wantsStandIn t = false := by
  obtain rfl : f = 7 := Option.some.inj ((show Tryz.prog.funcNamed "clockwork/clockworklaw15.InterpSames" = some 7 by kernel_rfl).symm.trans hf) |>.symm
  obtain rfl : fn = Tryz.f7 := (Option.some.inj (Tryz.func7.symm.trans hfn)).symm
  refine ⟨by kernel_rfl, fun j t ht => ?_⟩
  rw [Tryz.params7] at ht
  have hm : t = 36 := by simpa using Array.mem_of_getElem? ht
  subst hm
  exact (show Tryz.prog.wantsStandIn 36 = false by kernel_rfl)
theorem card : Rows.InterpSamesUptoCardSaid :=
  Claim7.holds_tied_plain_at .later [] _ _ _ _ said (fun _ h => by cases h) (by kernel_rfl) (fun _ h => by cases h) interpSamesUpto_row_tie rfl ⟨rfl, rfl⟩ (by kernel_rfl) rfl plain (by kernel_rfl)
end Go.Proofs.YtgcdpfpffalalaaGreatDoor.interpSames
