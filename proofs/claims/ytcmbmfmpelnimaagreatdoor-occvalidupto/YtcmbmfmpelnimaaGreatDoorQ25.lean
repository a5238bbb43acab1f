/- Part 25 of a proof: W59, W58, OP, OS, LB, OB -/
import Derived.Test.YtcmbmfmpelnimaaGreatDoorRows
import Derived.KernelRfl
import Derived.Test.YtcmbmfmpelnimaaGreatDoorCards
import Derived.Test.YtcmbmfmpelnimaaGreatDoorTie
import Derived.ProofKit
import Derived.OpenShut
import Derived.Carry
import Derived.Deep.DeepHandedRow
import Derived.Lib.LaidTab
import Derived.Stop.LaidErr
import Derived.Test.YtcmbmfmpelnimaaGreatDoorQ12
import Derived.Test.YtcmbmfmpelnimaaGreatDoorQ16
import Derived.Test.YtcmbmfmpelnimaaGreatDoorQ17
import Derived.Test.YtcmbmfmpelnimaaGreatDoorQ18
import Derived.Test.YtcmbmfmpelnimaaGreatDoorQ21
import Derived.Test.YtcmbmfmpelnimaaGreatDoorQ24
set_option linter.all false

set_option maxRecDepth 4000
set_option maxHeartbeats 2000000
namespace Go.Proofs.YtcmbmfmpelnimaaGreatDoor
open Go Go.Abs Go.Cw
theorem c_ref27_wrote (l : List Eff) (k : Bytes) : APure Tryz.prog 64 [.slice (l.map Eff.c), S k] (Bo (l.any fun x => wroteS x k)) := by
  refine apure_introB Tryz.func64 rfl (by kernel_rfl) (by simp [Tryz.ntmps64]) rfl ?_
  intro E h hN hh hu hb
  rw [Tryz.ntmps64] at hN
  refine awp_of_wpC _ _ _ ?_
  simp [go_sem] at hb
  simp -dsimp [go_sem, hN]
  refine awp_loopN l.length (fun n => ((l.drop n).any fun x => wroteS x k) = (l.any fun x => wroteS x k)) (fun n => ⟨[(0, .slice (l.map Eff.c)), (1, S k), (5, I n)], h⟩) (by simp) (Wk.mk (by simp [hh]) (by simp [go_sem]) (by simp [hu, hUnder_ext hu, go_sem]) (by simp [go_sem])) ?_
  intro n hn hI
  have hw := wrapS hn (show _ ≤ 68719476736 by omega)
  simp -dsimp [go_sem, hN]
  refine cnd (fun hc => ?_) (fun hc => ?_) <;> simp at hc
  · rw [drop_next hc, List.any_cons] at hI
    have hx : wroteS l[n] k = (decide (l[n].status = 1) && hasP l[n].writes k) := rfl
    simp -dsimp [go_sem, hN, hc, Eff.c]
    refine tgcall_pure (c_ref06_Has l[n].writes k) (by simp) ?_
    simp -dsimp [go_sem, hN]
    refine cnd (fun h1 => ?_) (fun h1 => ?_) <;> simp at h1
    · have hy : (l.any fun x => wroteS x k) = true := by rw [← hI, hx, h1.1, h1.2]; simp
      simp -dsimp [go_sem, hN, hy]
    · simp -dsimp [go_sem, hN, hw]
      refine ⟨hc, ?_, (Wk.mk (by simp [hh]) (by simp [go_sem]) (by simp [hu, hUnder_ext hu, go_sem]) (by simp [go_sem]))⟩
      rw [← hI, hx]
      rcases Bool.eq_false_or_eq_true (decide (l[n].status = 1) && hasP l[n].writes k) with g | g
      · simp at g
        have := h1 g.1
        rw [g.2] at this
        cases this
      · rw [g]; simp
  · rw [List.drop_eq_nil_of_le (by omega), List.any_nil] at hI
    simp -dsimp [go_sem, hN, ← hI]
theorem c_ref27_Valid (e : Eff) (l : List Eff) : APure Tryz.prog 25 [.agg e.c, .slice (l.map Eff.c)] (Bo (validO e l)) := by
  refine apure_introB Tryz.func25 rfl (by kernel_rfl) (by simp [Tryz.ntmps25]) rfl ?_
  intro E h hN hh hu hb
  rw [Tryz.ntmps25] at hN
  refine awp_of_wpC _ _ _ ?_
  simp [go_sem, Eff.c] at hb
  simp -dsimp [go_sem, hN, Eff.c]
  refine awp_loopN e.reads.length (fun n => (!((e.reads.drop n).any fun k => l.any fun x => wroteS x k)) = validO e l) (fun n => ⟨[(1, .slice (l.map Eff.c)), (2, P0 h.length), (5, I n)], h ++ [.cells e.c]⟩) (by simp [validO]) (Wk.mk (by simp [hh]) (by simp [go_sem]) (by simp [hu, hUnder_ext hu, go_sem]) (by simp [go_sem, Eff.c])) ?_
  intro n hn hI
  have hw := wrapS hn (show _ ≤ 68719476736 by omega)
  simp -dsimp [go_sem, hN, Eff.c]
  refine cnd (fun hc => ?_) (fun hc => ?_) <;> simp at hc
  · rw [drop_next hc, List.any_cons] at hI
    simp -dsimp [go_sem, hN, hc]
    refine tcall_pure (c_ref27_wrote l e.reads[n]) ?_
    simp -dsimp [go_sem, hN]
    refine cnd (fun h1 => ?_) (fun h1 => ?_) <;> try simp only [Bool.not_eq_true] at h1
    · simp -dsimp [go_sem, hN]
      rw [← hI, h1]
      simp
    · simp -dsimp [go_sem, hN, hw]
      exact ⟨hc, by rw [← hI, h1]; simp, (Wk.mk (by simp [hh]) (by simp [go_sem]) (by simp [hu, hUnder_ext hu, go_sem]) (by simp [go_sem, Eff.c]))⟩
  · rw [List.drop_eq_nil_of_le (by omega), List.any_nil] at hI
    simp -dsimp [go_sem, hN, ← hI]
end Go.Proofs.YtcmbmfmpelnimaaGreatDoor

set_option maxRecDepth 8000
set_option maxHeartbeats 2000000
namespace Go.Proofs.YtcmbmfmpelnimaaGreatDoor
open Go Go.Abs Go.Cw
section
variable {tT : TypeId} {tx : Nat × Nat} {g : Nat}
theorem c_law27_OccValid (e : Eff) (l : List Eff) (k : Int) (h : AHeap) (hg : h[g]? = some (tabO tT tx)) (hk : 0 ≤ k ∧ k ≤ 255) :
    ACalls Tryz.prog 6 [.agg e.c, .slice (l.map Eff.c), .val (.int .u8 k)] h fun r h' => r = .ret (Bo true) ∧ h' = h := by
  refine acalls_introB Tryz.func6 rfl (by kernel_rfl) (by simp [Tryz.ntmps6]) ?_
  intro E hN hh hu hb hb' hua
  rw [Tryz.ntmps6] at hN
  refine awp_of_wpC _ _ _ ?_
  have hgl : g < h.length := (List.getElem?_eq_some_iff.1 hg).1
  have hg' : ∀ l : AHeap, (h ++ l)[g]? = some (tabO tT tx) := fun l => by rw [List.getElem?_append_left hgl]; exact hg
  have cv := c_occ_Valid e l
  have cr := c_ref27_Valid e l
  have c0 := c_occ_Valid e []
  rw [show validO e [] = true by simp [validO]] at c0
  have hpart : ∀ l', (∀ x ∈ l', x ∈ l) → validO e l = true → validO e l' = true := fun l' h1 h2 => validO_iff.2 fun k hk x hx => validO_iff.1 h2 k hk x (h1 x hx)
  obtain ⟨v, hv⟩ : ∃ v, validO e l = v := ⟨_, rfl⟩
  rw [hv] at cv cr hpart
  have hwz : IntKind.i64.wrap k = k := wrapI (by omega) (by omega)
  simp [go_sem, Eff.c] at hb
  simp -dsimp [go_sem, hN, Eff.c]
  refine tcall_pure cv ?_
  simp -dsimp [go_sem, hN]
  refine tcall_pure cr ?_
  simp -dsimp [go_sem, hN]
  refine cnd (fun h0 => ?_) (fun h0 => ?_) <;> simp at h0
  · have hl0 : (0 : Int) < l.length := by exact_mod_cast h0.2
    obtain ⟨i, hi, hil⟩ : ∃ i : Nat, k.tmod l.length = i ∧ i < l.length := by
      refine ⟨(k.tmod l.length).toNat, ?_, ?_⟩
      · rw [Int.toNat_of_nonneg (Int.tmod_nonneg _ hk.1)]
      · have h1 := Int.tmod_lt_of_pos k hl0
        have h2 := Int.tmod_nonneg (l.length : Int) hk.1
        omega
    have ct := c_occ_Valid e (l.take i)
    have cd := c_occ_Valid e (l.drop i)
    rw [hpart _ (fun x hx => List.mem_of_mem_take hx) h0.1] at ct
    rw [hpart _ (fun x hx => List.mem_of_mem_drop hx) h0.1] at cd
    simp -dsimp [go_sem, hN, hwz, hi]
    refine ⟨by intro g; subst g; simp at hil, ?_⟩
    refine awp_drawQ 11 mixed (by kernel_rfl) (by kernel_rfl) ?_
    simp -dsimp [go_sem, hN, hil]
    repeat refine ⟨by omega, ?_⟩
    rw [List.map_take] at ct
    rw [List.map_drop] at cd
    refine tdcall ct (by simp) ?_
    simp -dsimp [go_sem, hN, hil]
    repeat refine ⟨by omega, ?_⟩
    refine tgcall_pure cd (by simp) ?_
    simp -dsimp [go_sem, hN]
    refine tcall_pure c0 ?_
    simp -dsimp [go_sem, hN]
    refine tgcall_true (by simp) ((c_law27_examples _ (hg' _)).mono ?_)
    rintro r h' ⟨rfl, rfl⟩
    simp -dsimp [go_sem, hN]
    exact ⟨_, .refl _, h, by simp [go_sem], hwk.app0 _, Nat.le_refl _, hu, rfl, rfl⟩
  · simp -dsimp [go_sem, hN]
    refine tcall_pure c0 ?_
    simp -dsimp [go_sem, hN]
    refine tgcall_true (by simp) ((c_law27_examples _ (hg' _)).mono ?_)
    rintro r h' ⟨rfl, rfl⟩
    simp -dsimp [go_sem, hN]
    exact ⟨_, .refl _, h, by simp [go_sem], hwk.app0 _, Nat.le_refl _, hu, rfl, rfl⟩
end
end Go.Proofs.YtcmbmfmpelnimaaGreatDoor

set_option maxRecDepth 8000
namespace Go.Proofs.YtcmbmfmpelnimaaGreatDoor
open Go Go.Abs Go.Cw
section
variable {H : Type} {enc : TypeId × Value → H} {w : World}
theorem bulk_part {d : DataW H} {l : List (DataW H)} (h : d ∈ l) : Rows.uptoBulk d ≤ Rows.uptoBulkAll l := by
  induction l with
  | nil => cases h
  | cons x r ih =>
    simp only [Rows.uptoBulkAll]
    rcases List.mem_cons.1 h with rfl | e
    · omega
    · have := ih e; omega
theorem bulk_one (d : DataW H) : 1 ≤ Rows.uptoBulk d := by
  cases d with
  | lit l => cases l <;> simp [Rows.uptoBulk]
  | nil => simp [Rows.uptoBulk]
  | ptr d => simp [Rows.uptoBulk]
  | slice elems spare => simp [Rows.uptoBulk]
  | agg parts => simp [Rows.uptoBulk]
  | iface t d => simp [Rows.uptoBulk]
  | map entries => simp [Rows.uptoBulk]
  | held h => simp [Rows.uptoBulk]
theorem bulk_len (l : List (DataW H)) : l.length ≤ Rows.uptoBulkAll l := by
  induction l with
  | nil => simp [Rows.uptoBulkAll]
  | cons x r ih => have := bulk_one x; simp only [Rows.uptoBulkAll, List.length_cons]; omega
theorem bulkB : Bulk (H := H) Rows.uptoBulk where
  str := fun s => by simp [Rows.uptoBulk]
  len := fun e s => by have := bulk_len e; simp only [Rows.uptoBulk]; omega
  sl := fun e s x hx => by have := bulk_part hx; simp only [Rows.uptoBulk]; omega
  agg := fun ps x hx => by have := bulk_part hx; simp only [Rows.uptoBulk]; omega
abbrev UB : Nat := 1048576
variable (enc w) in
abbrev RD (n : Nat) (t : TypeId) (Q : List AV → Prop) : Prop := Rd enc Tryz.prog w Rows.uptoBulk UB n t Q
theorem ub_le : UB ≤ 68719476736 := by decide
def rOf {α : Type} (c : α → List AV) (good : α → Prop) (xs : List AV) : Prop := ∃ a, xs = c a ∧ good a
def gStr (s : Bytes) : Prop := s.size ≤ UB
def gSl {α : Type} (good : α → Prop) (l : List α) : Prop := l.length ≤ UB ∧ ∀ a ∈ l, good a
def qOf {α : Type} (c : α → List AV) (good : α → Prop) (xs : List AV) : Prop := rOf (fun l : List α => [.slice (l.map c)]) (gSl good) xs
theorem rd_of {n : Nat} {t e : TypeId} (ht : Tryz.prog.underlying t = some (.slice e)) {sz : Nat} (hsz : Tryz.prog.cellsOf e = sz) (h0 : 0 < sz) {α : Type} {c : α → List AV} {good : α → Prop} (hl : ∀ a, (c a).length = sz) (he : RD enc w n e (rOf c good)) : RD enc w n t (qOf c good) := by
  refine (rd_slice bulkB ub_le ht hsz h0 (by rintro _ ⟨a, rfl, _⟩; exact hl a) he).mono ?_
  rintro _ ⟨rows, rfl, hlen, hq⟩
  obtain ⟨l, rfl, hg⟩ := rows_list hq
  exact ⟨l, rfl, by simpa using hlen, hg⟩
theorem len_of {α : Type} {c : α → List AV} {good : α → Prop} : ∀ xs, qOf c good xs → xs.length = 1 := by rintro _ ⟨l, rfl, _⟩; rfl
theorem rd_I {n : Nat} : RD enc w n 3 (qInt .i64) := rd_int (by decide) Tryz.underlying3
theorem rd_I64 {n : Nat} : RD enc w n 2 (qInt .i64) := rd_int (by decide) Tryz.underlying2
theorem rd_S {n : Nat} : RD enc w n 9 (qStr UB) := rd_str bulkB ub_le Tryz.underlying9
theorem rd_B {n : Nat} : RD enc w n 4 qBool := rd_bool Tryz.underlying4
theorem i64_of {z : Int} (h : IntKind.i64.min ≤ z ∧ z ≤ IntKind.i64.max) : i64 z := ⟨h.1, h.2⟩
theorem rd_V : ∀ {n : Nat}, RD enc w n 47 (rOf V.c rngV)
  | 0 => Rd.zero
  | n + 1 => by
    refine (rd_struct (Qs := [qInt .i64, qInt .i64, qStr UB]) bulkB Tryz.underlying47 ?_).mono ?_
    · simp only [Flds]
      exact ⟨(by first | rfl | trivial), 1, by kernel_rfl, rd_I, len_int, (by first | rfl | trivial), 1, by kernel_rfl, rd_I64, len_int, (by first | rfl | trivial), 1, by kernel_rfl, rd_S, len_str, by first | kernel_rfl | trivial⟩
    · rintro _ ⟨ps, hp0, rfl⟩
      obtain ⟨_, _, rfl, ⟨k, rfl, _⟩, hp1⟩ := parts_cons hp0
      obtain ⟨_, _, rfl, ⟨z, rfl, hz⟩, hp2⟩ := parts_cons hp1
      obtain ⟨_, _, rfl, ⟨s, rfl, hs⟩, hp3⟩ := parts_cons hp2
      obtain rfl := parts_nil hp3
      exact ⟨⟨k, z, s⟩, rfl, i64_of hz, by show s.size ≤ _; unfold UB at hs; omega⟩
def gP (p : Pr) : Prop := p.key.size ≤ UB ∧ rngV p.v
theorem rd_P : ∀ {n : Nat}, RD enc w n 94 (rOf Pr.c gP)
  | 0 => Rd.zero
  | n + 1 => by
    refine (rd_struct (Qs := [qStr UB, rOf V.c rngV]) bulkB Tryz.underlying94 ?_).mono ?_
    · simp only [Flds]
      exact ⟨(by first | rfl | trivial), 1, by kernel_rfl, rd_S, len_str, (by first | rfl | trivial), 3, by kernel_rfl, rd_V, by rintro _ ⟨v, rfl, _⟩; rfl, by first | kernel_rfl | trivial⟩
    · rintro _ ⟨ps, hp0, rfl⟩
      obtain ⟨_, _, rfl, ⟨k, rfl, hk⟩, hp1⟩ := parts_cons hp0
      obtain ⟨_, _, rfl, ⟨v, rfl, hv⟩, hp2⟩ := parts_cons hp1
      obtain rfl := parts_nil hp2
      exact ⟨⟨k, v⟩, rfl, hk, hv⟩
theorem rd_Vs {n : Nat} : RD enc w n 26 (qOf V.c rngV) := rd_of Tryz.underlying26 (sz := 3) (by kernel_rfl) (by decide) (fun _ => rfl) rd_V
theorem rd_Ps {n : Nat} : RD enc w n 32 (qOf Pr.c gP) := rd_of Tryz.underlying32 (sz := 4) (by kernel_rfl) (by decide) (fun _ => rfl) rd_P
theorem rd_Ss {n : Nat} : RD enc w n 27 (qOf sRow gStr) := rd_of Tryz.underlying27 (sz := 1) (by kernel_rfl) (by decide) (fun _ => rfl) (rd_S.mono (by rintro _ ⟨s, rfl, hs⟩; exact ⟨s, rfl, hs⟩))
theorem rd_E : ∀ (n : Nat), RD enc w n 44 (rOf Ex.c rngX)
  | 0 => Rd.zero
  | n + 1 => by
    have hs : RD enc w n 42 (qOf Ex.c rngX) := rd_of Tryz.underlying42 (sz := 4) (by kernel_rfl) (by decide) (fun e => by rw [Ex.c_eq]; rfl) (rd_E n)
    refine (rd_struct (Qs := [qInt .i64, qInt .i64, qStr UB, qOf Ex.c rngX]) bulkB Tryz.underlying44 ?_).mono ?_
    · simp only [Flds]
      exact ⟨(by first | rfl | trivial), 1, by kernel_rfl, rd_I, len_int, (by first | rfl | trivial), 1, by kernel_rfl, rd_I64, len_int, (by first | rfl | trivial), 1, by kernel_rfl, rd_S, len_str, (by first | rfl | trivial), 1, by kernel_rfl, hs, len_of, by first | kernel_rfl | trivial⟩
    · rintro _ ⟨ps, hp0, rfl⟩
      obtain ⟨_, _, rfl, ⟨k, rfl, _⟩, hp1⟩ := parts_cons hp0
      obtain ⟨_, _, rfl, ⟨z, rfl, hz⟩, hp2⟩ := parts_cons hp1
      obtain ⟨_, _, rfl, ⟨s, rfl, hs⟩, hp3⟩ := parts_cons hp2
      obtain ⟨_, _, rfl, ⟨l, rfl, hl⟩, hp4⟩ := parts_cons hp3
      obtain rfl := parts_nil hp4
      refine ⟨.mk k z s l, by rw [Ex.c_eq]; rfl, (rngX_iff _).2 ⟨⟨i64_of hz, by show s.size ≤ _; unfold UB at hs; omega⟩, hl.2⟩⟩
theorem rd_T : ∀ (n : Nat), RD enc w n 125 (rOf St.c rngS)
  | 0 => Rd.zero
  | n + 1 => by
    have hs : RD enc w n 23 (qOf St.c rngS) := rd_of Tryz.underlying23 (sz := 13) (by kernel_rfl) (by decide) (fun e => by rw [St.c_eq]; rfl) (rd_T n)
    refine (rd_struct (Qs := [qInt .i64, qStr UB, qInt .i64, rOf Ex.c rngX, rOf Ex.c rngX, qOf St.c rngS, qOf St.c rngS]) bulkB Tryz.underlying125 ?_).mono ?_
    · simp only [Flds]
      exact ⟨(by first | rfl | trivial), 1, by kernel_rfl, rd_I, len_int, (by first | rfl | trivial), 1, by kernel_rfl, rd_S, len_str, (by first | rfl | trivial), 1, by kernel_rfl, rd_I, len_int, (by first | rfl | trivial), 4, by kernel_rfl, rd_E n, by rintro _ ⟨e, rfl, _⟩; rw [Ex.c_eq]; rfl, (by first | rfl | trivial), 4, by kernel_rfl, rd_E n, by rintro _ ⟨e, rfl, _⟩; rw [Ex.c_eq]; rfl, (by first | rfl | trivial), 1, by kernel_rfl, hs, len_of, (by first | rfl | trivial), 1, by kernel_rfl, hs, len_of, by first | kernel_rfl | trivial⟩
    · rintro _ ⟨ps, hp0, rfl⟩
      obtain ⟨_, _, rfl, ⟨k, rfl, _⟩, hp1⟩ := parts_cons hp0
      obtain ⟨_, _, rfl, ⟨s, rfl, hs⟩, hp2⟩ := parts_cons hp1
      obtain ⟨_, _, rfl, ⟨m, rfl, _⟩, hp3⟩ := parts_cons hp2
      obtain ⟨_, _, rfl, ⟨a, rfl, ha⟩, hp4⟩ := parts_cons hp3
      obtain ⟨_, _, rfl, ⟨b, rfl, hb⟩, hp5⟩ := parts_cons hp4
      obtain ⟨_, _, rfl, ⟨l, rfl, hl⟩, hp6⟩ := parts_cons hp5
      obtain ⟨_, _, rfl, ⟨l', rfl, hl'⟩, hp7⟩ := parts_cons hp6
      obtain rfl := parts_nil hp7
      refine ⟨.mk k s m a b l l', ?_, (rngS_iff _).2 ⟨ha, hb, hl.2, hl'.2⟩⟩
      simp [St.c, St.cl_map]
theorem rd_Ts {n : Nat} : RD enc w n 23 (qOf St.c rngS) := rd_of Tryz.underlying23 (sz := 13) (by kernel_rfl) (by decide) (fun e => by rw [St.c_eq]; rfl) (rd_T n)
theorem rd_M : ∀ {n : Nat}, RD enc w n 80 (rOf Param.c fun p => gStr p.name)
  | 0 => Rd.zero
  | n + 1 => by
    refine (rd_struct (Qs := [qStr UB, qInt .i64]) bulkB Tryz.underlying80 ?_).mono ?_
    · simp only [Flds]
      exact ⟨(by first | rfl | trivial), 1, by kernel_rfl, rd_S, len_str, (by first | rfl | trivial), 1, by kernel_rfl, rd_I, len_int, by first | kernel_rfl | trivial⟩
    · rintro _ ⟨ps, hp0, rfl⟩
      obtain ⟨_, _, rfl, ⟨s, rfl, hs⟩, hp1⟩ := parts_cons hp0
      obtain ⟨_, _, rfl, ⟨k, rfl, _⟩, hp2⟩ := parts_cons hp1
      obtain rfl := parts_nil hp2
      exact ⟨⟨s, k⟩, rfl, hs⟩
theorem rd_Ms {n : Nat} : RD enc w n 22 (qOf Param.c fun p => gStr p.name) := rd_of Tryz.underlying22 (sz := 2) (by kernel_rfl) (by decide) (fun _ => rfl) rd_M
def gProc (p : Proc) : Prop := gStr p.name ∧ gSl (fun x : Param => gStr x.name) p.params ∧ gSl rngS p.body
theorem rd_Proc : ∀ {n : Nat}, RD enc w n 25 (rOf Proc.c gProc)
  | 0 => Rd.zero
  | n + 1 => by
    refine (rd_struct (Qs := [qStr UB, qOf Param.c fun p => gStr p.name, qOf St.c rngS]) bulkB Tryz.underlying25 ?_).mono ?_
    · simp only [Flds]
      exact ⟨(by first | rfl | trivial), 1, by kernel_rfl, rd_S, len_str, (by first | rfl | trivial), 1, by kernel_rfl, rd_Ms, len_of, (by first | rfl | trivial), 1, by kernel_rfl, rd_Ts, len_of, by first | kernel_rfl | trivial⟩
    · rintro _ ⟨ps, hp0, rfl⟩
      obtain ⟨_, _, rfl, ⟨s, rfl, hs⟩, hp1⟩ := parts_cons hp0
      obtain ⟨_, _, rfl, ⟨l, rfl, hl⟩, hp2⟩ := parts_cons hp1
      obtain ⟨_, _, rfl, ⟨b, rfl, hb⟩, hp3⟩ := parts_cons hp2
      obtain rfl := parts_nil hp3
      exact ⟨⟨s, l, b⟩, rfl, hs, hl, hb⟩
def gFoot (f : Foot) : Prop := gSl gStr f.reads ∧ gSl gStr f.writes
theorem rd_Foot : ∀ {n : Nat}, RD enc w n 29 (rOf Foot.c gFoot)
  | 0 => Rd.zero
  | n + 1 => by
    refine (rd_struct (Qs := [qBool, qOf sRow gStr, qOf sRow gStr]) bulkB Tryz.underlying29 ?_).mono ?_
    · simp only [Flds]
      exact ⟨(by first | rfl | trivial), 1, by kernel_rfl, rd_B, len_bool, (by first | rfl | trivial), 1, by kernel_rfl, rd_Ss, len_of, (by first | rfl | trivial), 1, by kernel_rfl, rd_Ss, len_of, by first | kernel_rfl | trivial⟩
    · rintro _ ⟨ps, hp0, rfl⟩
      obtain ⟨_, _, rfl, ⟨b, rfl⟩, hp1⟩ := parts_cons hp0
      obtain ⟨_, _, rfl, ⟨l, rfl, hl⟩, hp2⟩ := parts_cons hp1
      obtain ⟨_, _, rfl, ⟨l', rfl, hl'⟩, hp3⟩ := parts_cons hp2
      obtain rfl := parts_nil hp3
      exact ⟨⟨b, l, l'⟩, rfl, hl, hl'⟩
structure gEff (e : Eff) : Prop where
  out : gSl rngV e.out
  reads : gSl gStr e.reads
  puts : gSl gStr e.puts
  writes : gSl gP e.writes
  miss : gStr e.miss
def qOut (xs : List AV) : Prop := ∃ s c l, xs = [I s, I c, .slice (l.map V.c)] ∧ gSl rngV l
theorem rd_Out : ∀ {n : Nat}, RD enc w n 35 qOut
  | 0 => Rd.zero
  | n + 1 => by
    refine (rd_struct (Qs := [qInt .i64, qInt .i64, qOf V.c rngV]) bulkB Tryz.underlying35 ?_).mono ?_
    · simp only [Flds]
      exact ⟨(by first | rfl | trivial), 1, by kernel_rfl, rd_I, len_int, (by first | rfl | trivial), 1, by kernel_rfl, rd_I, len_int, (by first | rfl | trivial), 1, by kernel_rfl, rd_Vs, len_of, by first | kernel_rfl | trivial⟩
    · rintro _ ⟨ps, hp0, rfl⟩
      obtain ⟨_, _, rfl, ⟨s, rfl, _⟩, hp1⟩ := parts_cons hp0
      obtain ⟨_, _, rfl, ⟨c, rfl, _⟩, hp2⟩ := parts_cons hp1
      obtain ⟨_, _, rfl, ⟨l, rfl, hl⟩, hp3⟩ := parts_cons hp2
      obtain rfl := parts_nil hp3
      exact ⟨s, c, l, rfl, hl⟩
theorem rd_Eff : ∀ {n : Nat}, RD enc w n 37 (rOf Eff.c gEff)
  | 0 => Rd.zero
  | n + 1 => by
    refine (rd_struct (Qs := [qOut, qOf sRow gStr, qOf sRow gStr, qOf Pr.c gP, qStr UB, qInt .i64]) bulkB Tryz.underlying37 ?_).mono ?_
    · simp only [Flds]
      exact ⟨(by first | rfl | trivial), 3, by kernel_rfl, rd_Out, by rintro _ ⟨s, c, l, rfl, _⟩; rfl, (by first | rfl | trivial), 1, by kernel_rfl, rd_Ss, len_of, (by first | rfl | trivial), 1, by kernel_rfl, rd_Ss, len_of, (by first | rfl | trivial), 1, by kernel_rfl, rd_Ps, len_of, (by first | rfl | trivial), 1, by kernel_rfl, rd_S, len_str, (by first | rfl | trivial), 1, by kernel_rfl, rd_I, len_int, by first | kernel_rfl | trivial⟩
    · rintro _ ⟨ps, hp0, rfl⟩
      obtain ⟨_, _, rfl, ⟨s, c, l, rfl, hl⟩, hp1⟩ := parts_cons hp0
      obtain ⟨_, _, rfl, ⟨a, rfl, ha⟩, hp2⟩ := parts_cons hp1
      obtain ⟨_, _, rfl, ⟨b, rfl, hb⟩, hp3⟩ := parts_cons hp2
      obtain ⟨_, _, rfl, ⟨v, rfl, hv⟩, hp4⟩ := parts_cons hp3
      obtain ⟨_, _, rfl, ⟨m, rfl, hm⟩, hp5⟩ := parts_cons hp4
      obtain ⟨_, _, rfl, ⟨k, rfl, _⟩, hp6⟩ := parts_cons hp5
      obtain rfl := parts_nil hp6
      exact ⟨⟨s, c, l, a, b, v, m, k⟩, rfl, hl, ha, hb, hv, hm⟩
end
end Go.Proofs.YtcmbmfmpelnimaaGreatDoor

set_option maxRecDepth 8000
namespace Go.Proofs.YtcmbmfmpelnimaaGreatDoor
open Go Go.Abs Go.Cw
section
variable {H : Type} {enc : TypeId × Value → H} {w : World}
structure gTxn (t : Txn) : Prop where
  id : i64 t.id
  proc : gStr t.proc
  args : gSl rngV t.args
  ft : gFoot t.ft
  att : i64 t.att
theorem rd_Txn : ∀ {n : Nat}, RD enc w n 69 (rOf Txn.c gTxn)
  | 0 => Rd.zero
  | n + 1 => by
    refine (rd_struct (Qs := [qInt .i64, qStr UB, qOf V.c rngV, rOf Foot.c gFoot, qInt .i64]) bulkB Tryz.underlying69 ?_).mono ?_
    · simp only [Flds]
      exact ⟨(by first | rfl | trivial), 1, by kernel_rfl, rd_I64, len_int, (by first | rfl | trivial), 1, by kernel_rfl, rd_S, len_str, (by first | rfl | trivial), 1, by kernel_rfl, rd_Vs, len_of, (by first | rfl | trivial), 3, by kernel_rfl, rd_Foot, by rintro _ ⟨v, rfl, _⟩; rfl, (by first | rfl | trivial), 1, by kernel_rfl, rd_I, len_int, by first | kernel_rfl | trivial⟩
    · rintro _ ⟨ps, hp0, rfl⟩
      obtain ⟨_, _, rfl, ⟨k, rfl, hk⟩, hp1⟩ := parts_cons hp0
      obtain ⟨_, _, rfl, ⟨s, rfl, hs⟩, hp2⟩ := parts_cons hp1
      obtain ⟨_, _, rfl, ⟨l, rfl, hl⟩, hp3⟩ := parts_cons hp2
      obtain ⟨_, _, rfl, ⟨f, rfl, hf⟩, hp4⟩ := parts_cons hp3
      obtain ⟨_, _, rfl, ⟨z, rfl, hz⟩, hp5⟩ := parts_cons hp4
      obtain rfl := parts_nil hp5
      exact ⟨⟨k, s, l, f, z⟩, rfl, i64_of hk, hs, hl, hf, i64_of hz⟩
theorem rd_Txns {n : Nat} : RD enc w n 52 (qOf Txn.c gTxn) := rd_of Tryz.underlying52 (sz := 7) (by kernel_rfl) (by decide) (fun _ => rfl) rd_Txn
theorem rd_Procs {n : Nat} : RD enc w n 51 (qOf Proc.c gProc) := rd_of Tryz.underlying51 (sz := 3) (by kernel_rfl) (by decide) (fun _ => rfl) rd_Proc
theorem rd_Effs {n : Nat} : RD enc w n 55 (qOf Eff.c gEff) := rd_of Tryz.underlying55 (sz := 8) (by kernel_rfl) (by decide) (fun _ => rfl) rd_Eff
theorem batchIn_of {procs : List Proc} {l : List Txn} (hp : gSl gProc procs) (hl : gSl gTxn l) : BatchIn fmtI procs l := ⟨plain_itoa, fun p h => (hp.2 p h).2.2.2, fun t h => (hl.2 t h).args.2⟩
theorem rngL_of {s : List Pr} (h : gSl gP s) : rngL s := fun q hq => (h.2 q hq).2
def gBatch (b : List Proc × List Pr × List Txn) : Prop := gSl gProc b.1 ∧ gSl gP b.2.1 ∧ gSl gTxn b.2.2
end
end Go.Proofs.YtcmbmfmpelnimaaGreatDoor

set_option maxRecDepth 8000
namespace Go.Proofs.YtcmbmfmpelnimaaGreatDoor
open Go Go.Abs Go.Cw Go.ChangeShapes Go.WideShapes Go.ChangeAt Go.RowKit
theorem laidOut : laidOutB Tryz.prog = true := by kernel_rfl
theorem ownK : ownKnob Tryz.prog.godebug = none := by kernel_rfl
abbrev laidL : List (String × DataW Unit) := [("math/bits.deBruijn32tab", Rows.laid_math_bits_deBruijn32tab), ("math/bits.deBruijn64tab", Rows.laid_math_bits_deBruijn64tab), ("internal/strconv.uint64pow10", Rows.laid_internal_strconv_uint64pow10)]
abbrev gTab : Nat := 1
theorem table {W : World} (h : laidMetH Tryz.prog laidL W) : Lib.TabIs Tryz.prog W "internal/strconv.uint64pow10" .u64 Lib.pow10Tab :=
  Lib.tabIs_of_head (rest := []) (g := gTab) (n := 20) (by kernel_rfl) (by kernel_rfl) Tryz.underlying280 Tryz.underlying204 (by kernel_rfl) (by kernel_rfl) (laidMet.tail (laidMet.tail (show laidMet Tryz.prog laidL W from h)))
theorem table_heap {W : World} (h : laidMetH Tryz.prog laidL W) : ∃ T x, W.heap[gTab]? = some (.cells tabV T x) := by
  have h1 := table h
  unfold Lib.TabIs World.var? at h1
  rw [show Tryz.prog.globalNamed "internal/strconv.uint64pow10" = some gTab by kernel_rfl] at h1
  simp only [Option.bind_some] at h1
  split at h1
  · rename_i cs T x hx
    cases h1
    exact ⟨T, x, hx⟩
  · cases h1
theorem tab_u64 : ∀ (j : Nat) (v : Value), tabV[j]? = some v → ∃ n, v = .int .u64 n := by
  intro j v hv
  unfold tabV at hv
  have : (Lib.pow10Tab.map fun z => Value.int .u64 z)[j]? = some v := by simpa using hv
  rw [List.getElem?_map, Option.map_eq_some_iff] at this
  obtain ⟨z, _, rfl⟩ := this
  exact ⟨z, rfl⟩
def putTab (zs : List Value) : Obj → Obj
  | .cells _ t fr => .cells zs.toArray t fr
  | o => o
def tabVals (d : DataW Unit) : List Value := match d with
  | .agg ps => ps.map fun | .lit (.int k n) => .int k n | _ => undef
  | _ => []
noncomputable def laidWorld (os : Os) : World :=
  { World.holding Tryz.prog os ⟨#[], #[], []⟩ with heap := (((World.holding Tryz.prog os ⟨#[], #[], []⟩).heap.modify gTab (putTab (tabVals Rows.laid_internal_strconv_uint64pow10))).modify 2 (putTab (tabVals Rows.laid_math_bits_deBruijn32tab))).modify 3 (putTab (tabVals Rows.laid_math_bits_deBruijn64tab)) }
section
variable {H : Type} {enc : TypeId × Value → H} {W : World} {base : Nat}
theorem okWide_struct {t : TypeId} {fs : Array Field} (ht : Tryz.prog.underlying t = some (.struct fs)) {v : Value} (h : Value.okWide Tryz.prog W .any base t v) : ∃ cs, v = .agg cs := by
  unfold Value.okWide at h
  rw [ht] at h
  obtain ⟨cs, rfl, _⟩ := h
  exact ⟨cs, rfl⟩
theorem okWide_slice {t e : TypeId} (ht : Tryz.prog.underlying t = some (.slice e)) {v : Value} (h : Value.okWide Tryz.prog W .any base t v) : v.cells = #[v] := by
  unfold Value.okWide at h
  rw [ht] at h
  simp only at h
  unfold Cell.okWide at h
  rw [ht] at h
  cases v <;> first | rfl | skip
  unfold Cell.ok at h
  rw [ht] at h
  exact h.elim
theorem arg_struct {t : TypeId} {fs : Array Field} (ht : Tryz.prog.underlying t = some (.struct fs)) {v : Value} {d : DataW H} {ps : List MemPlace} (hv : Value.okWide Tryz.prog W .any base t v) (h : DataW.Trod enc Tryz.prog W 0 (fun _ => true) true t v d ps)
    {α : Type} {c : α → List AV} {good : α → Prop} (hr : ∀ n, RD enc W n t (rOf c good)) (hb : Rows.uptoBulk d ≤ UB) : ∃ a, Rel (ctxR W gTab) (.agg (c a)) v ∧ good a := by
  obtain ⟨cs, rfl⟩ := okWide_struct ht hv
  obtain ⟨fuel, hf⟩ := h
  obtain ⟨_, hd, a, rfl, hg⟩ := hr fuel fuel _ _ _ (Nat.le_refl _) hf hb
  exact ⟨a, rel_agg hd, hg⟩
theorem arg_slice {t e : TypeId} (ht : Tryz.prog.underlying t = some (.slice e)) {v : Value} {d : DataW H} {ps : List MemPlace} (hv : Value.okWide Tryz.prog W .any base t v) (h : DataW.Trod enc Tryz.prog W 0 (fun _ => true) true t v d ps)
    {α : Type} {c : α → List AV} {good : α → Prop} (hr : ∀ n, RD enc W n t (qOf c good)) (hb : Rows.uptoBulk d ≤ UB) : ∃ l : List α, Rel (ctxR W gTab) (.slice (l.map c)) v ∧ gSl good l := by
  obtain ⟨fuel, hf⟩ := h
  rw [okWide_slice ht hv] at hf
  obtain ⟨_, hd, l, rfl, hg⟩ := hr fuel fuel _ _ _ (Nat.le_refl _) hf hb
  exact ⟨l, rel_one hd, hg⟩
end
end Go.Proofs.YtcmbmfmpelnimaaGreatDoor

set_option maxRecDepth 8000
namespace Go.Proofs.YtcmbmfmpelnimaaGreatDoor
open Go Go.Abs Go.Cw
section
variable {H : Type} {enc : TypeId × Value → H} {w : World} {base : Nat}
theorem rd_Batch27 : ∀ {n : Nat}, RD enc w n 54 (rOf (fun b : List Proc × List Pr × List Txn => batC b.1 b.2.1 b.2.2) gBatch)
  | 0 => Rd.zero
  | n + 1 => by
    refine (rd_struct (Qs := [qOf Proc.c gProc, qOf Pr.c gP, qOf Txn.c gTxn]) bulkB Tryz.underlying54 ?_).mono ?_
    · simp only [Flds]
      exact ⟨(by first | rfl | trivial), 1, by kernel_rfl, rd_Procs, len_of, (by first | rfl | trivial), 1, by kernel_rfl, rd_Ps, len_of, (by first | rfl | trivial), 1, by kernel_rfl, rd_Txns, len_of, by first | kernel_rfl | trivial⟩
    · rintro _ ⟨ps, hp0, rfl⟩
      obtain ⟨_, _, rfl, ⟨p, rfl, hp⟩, hp1⟩ := parts_cons hp0
      obtain ⟨_, _, rfl, ⟨l, rfl, hl⟩, hp2⟩ := parts_cons hp1
      obtain ⟨_, _, rfl, ⟨t, rfl, ht⟩, hp3⟩ := parts_cons hp2
      obtain rfl := parts_nil hp3
      exact ⟨(p, l, t), rfl, hp, hl, ht⟩
theorem batch_len {b : List Proc × List Pr × List Txn} (h : gBatch b) : b.2.1.length + 64 * b.2.2.length ≤ 60000000000 := by
  have h1 := h.2.1.1
  have h2 := h.2.2.1
  unfold UB at h1 h2
  omega
theorem okWide_u8 {t : TypeId} (ht : Tryz.prog.underlying t = some (.int .u8)) {v : Value} (h : Value.okWide Tryz.prog w .any base t v) : v.cells = #[v] := by
  unfold Value.okWide at h
  rw [ht] at h
  simp only at h
  unfold Cell.okWide at h
  rw [ht] at h
  cases v <;> first | rfl | skip
  unfold Cell.ok at h
  rw [ht] at h
  exact h.elim
theorem arg_u8 {t : TypeId} (ht : Tryz.prog.underlying t = some (.int .u8)) {v : Value} {d : DataW H} {ps : List MemPlace} (hv : Value.okWide Tryz.prog w .any base t v) (h : DataW.Trod enc Tryz.prog w 0 (fun _ => true) true t v d ps)
    (hb : Rows.uptoBulk d ≤ UB) : ∃ z : Int, Rel (ctxR w gTab) (.val (.int .u8 z)) v ∧ 0 ≤ z ∧ z ≤ 255 := by
  obtain ⟨fuel, hf⟩ := h
  rw [okWide_u8 ht hv] at hf
  obtain ⟨_, hd, z, rfl, h1, h2⟩ := (rd_int (by decide) ht : RD enc w fuel t (qInt .u8)) fuel _ _ _ (Nat.le_refl _) hf hb
  exact ⟨z, rel_one hd, h1, h2⟩
end
end Go.Proofs.YtcmbmfmpelnimaaGreatDoor
