/- Part 24 of a proof: W50, W51, W31, W32, W55, W54, W56, W52, W60 -/
import Derived.Shelf.Small.Strs
import Derived.Shelf.Strconv.Itoa4
import Derived.Lib.ItoaLen
import Derived.Test.YtcmbmfmpelnimaaGreatDoorQ09
import Derived.Test.YtcmbmfmpelnimaaGreatDoorQ10
import Derived.Test.YtcmbmfmpelnimaaGreatDoorQ11
import Derived.Test.YtcmbmfmpelnimaaGreatDoorQ12
import Derived.Test.YtcmbmfmpelnimaaGreatDoorQ13
import Derived.Test.YtcmbmfmpelnimaaGreatDoorQ14
import Derived.Test.YtcmbmfmpelnimaaGreatDoorQ16
import Derived.Test.YtcmbmfmpelnimaaGreatDoorQ17
import Derived.Test.YtcmbmfmpelnimaaGreatDoorQ18
import Derived.Test.YtcmbmfmpelnimaaGreatDoorQ20
import Derived.Test.YtcmbmfmpelnimaaGreatDoorQ21
import Derived.Test.YtcmbmfmpelnimaaGreatDoorQ23
set_option linter.all false

set_option maxRecDepth 4000
set_option maxHeartbeats 2000000
namespace Go.Proofs.YtcmbmfmpelnimaaGreatDoor
open Go Go.Abs Go.Cw
theorem c_serial_find1 (x : Proc) (h : AHeap) (i : Nat) (t : Txn) (hi : h[i]? = some (.cells t.c)) : ACalls Tryz.prog 151 [.agg x.c, .ptr i 0] h fun r h' => r = .ret (Bo (decide (x.name = t.proc))) ∧ h' = h := by
  refine acalls_introB Tryz.func151 rfl (by kernel_rfl) (by simp [Tryz.ntmps151]) ?_
  intro E hN hh hu hb hb' hua
  rw [Tryz.ntmps151] at hN
  refine awp_of_wpC _ _ _ ?_
  have hi' : i < h.length := (List.getElem?_eq_some_iff.1 hi).1
  have a1 : ∀ l, (h ++ l)[i]? = some (.cells t.c) := fun l => by rw [List.getElem?_append_left hi']; exact hi
  simp -dsimp [go_sem, hN, a1, hu, Txn.c]
  exact ⟨_, .refl _, h, by simp [go_sem], by simp [go_sem], by simp, by simp [hu, go_sem], rfl, rfl⟩
theorem c_IndexFunc_Proc (l : List Proc) (f : FuncId) (caps : List AV) (q : Proc → Bool) (h : AHeap) (hcn : normL h caps = caps) (hp : ∀ x : Proc, ACalls Tryz.prog f ([.agg x.c] ++ caps) h fun r h' => r = .ret (Bo (q x)) ∧ h' = h) :
    ACalls Tryz.prog 150 [.slice (l.map Proc.c), .fn (.func f) [] caps] h fun r h' => r = .ret (I (idxOf q l)) ∧ h' = h := by
  refine acalls_introB Tryz.func150 rfl (by kernel_rfl) (by simp [Tryz.ntmps150]) ?_
  intro E hN hh hu hb hb' hua
  rw [Tryz.ntmps150] at hN
  refine awp_of_wpC _ _ _ ?_
  simp [go_sem] at hb
  simp -dsimp [go_sem, hN]
  refine awp_loopN l.length (fun n => idxFrom q n (l.drop n) = idxOf q l) (fun n => ⟨[(0, .slice (l.map Proc.c)), (1, .fn (.func f) [] caps), (7, I l.length), (8, I n)], h⟩) (by simp [idxOf]) (Wk.mk (by simp [hh]) (by simp) (by simp [hu]) (by simp [go_sem]; simpa [go_sem] using hua)) ?_
  intro n hn hI
  have hw := wrapS hn hb.1
  simp -dsimp [go_sem, hN]
  refine cnd (fun hc => ?_) (fun hc => ?_) <;> simp at hc
  · rw [drop_next hc, idxFrom] at hI
    simp -dsimp [go_sem, hN, hc, hcn]
    refine tcall (hp l[n]) ?_
    rintro r h' ⟨rfl, rfl⟩
    simp -dsimp [go_sem, hN]
    refine cnd (fun hg => ?_) (fun hg => ?_) <;> try simp at hg
    · simp -dsimp [go_sem, hN]
      rw [if_pos hg] at hI
      rw [hI]
      exact ⟨_, .refl _, h', by simp [go_sem], by simp [go_sem], by simp, by simp [hu, go_sem], rfl, rfl⟩
    · simp -dsimp [go_sem, hN, hw]
      exact ⟨hc, by simpa [hg] using hI, Wk.mk (by simp [hh]) (by simp) (by simp [hu]) (by simp [go_sem]; simpa [go_sem] using hua)⟩
  · rw [List.drop_eq_nil_of_le (by omega), idxFrom] at hI
    simp -dsimp [go_sem, hN, ← hI]
    exact ⟨_, .refl _, h, by simp [go_sem], by simp [go_sem], by simp, by simp [hu, go_sem], rfl, rfl⟩
theorem idxFrom_find {α : Type} (q : α → Bool) : ∀ (l : List α) (n : Nat), (idxFrom q n l = -1 ∧ l.find? q = none) ∨ ∃ (m : Nat) (hm : m < l.length), idxFrom q n l = ((n + m : Nat) : Int) ∧ l.find? q = some l[m]
  | [], n => .inl ⟨by rw [idxFrom], rfl⟩
  | x :: l, n => by
    rw [idxFrom]
    by_cases h : q x = true
    · right
      exact ⟨0, by simp, by simp [h], by simp [h]⟩
    · rw [if_neg h]
      rcases idxFrom_find q l (n + 1) with ⟨h1, h2⟩ | ⟨m, hm, h1, h2⟩
      · exact .inl ⟨h1, by simp [h, h2]⟩
      · refine .inr ⟨m + 1, by simp; omega, ?_, ?_⟩
        · rw [h1]; congr 1; omega
        · simp [h, h2]
theorem idxOf_find {α : Type} (q : α → Bool) (l : List α) : (idxOf q l = -1 ∧ l.find? q = none) ∨ ∃ (m : Nat) (hm : m < l.length), idxOf q l = (m : Int) ∧ l.find? q = some l[m] := by
  have := idxFrom_find q l 0
  simpa [idxOf] using this
def noProc : Proc := ⟨em, [], []⟩
theorem c_serial_find (procs : List Proc) (t : Txn) : APure Tryz.prog 103 [.slice (procs.map Proc.c), .agg t.c] (.tuple [.agg ((findP procs t).getD noProc).c, Bo (findP procs t).isSome]) := by
  refine apure_introB Tryz.func103 rfl (by kernel_rfl) (by simp [Tryz.ntmps103]) rfl ?_
  intro E h hN hh hu hb
  rw [Tryz.ntmps103] at hN
  refine awp_of_wpC _ _ _ ?_
  simp [go_sem] at hb
  obtain ⟨R, hR⟩ : ∃ R, findP procs t = R := ⟨_, rfl⟩
  rw [hR]
  unfold findP findN at hR
  simp -dsimp [go_sem, hN]
  refine tcall (c_IndexFunc_Proc procs _ _ (fun x => decide (x.name = t.proc)) _ (by simp [normL, AV.norm]) (fun x => c_serial_find1 x _ _ t (by simp [Txn.c]))) ?_
  rintro r h' ⟨rfl, rfl⟩
  rcases idxOf_find (fun x : Proc => decide (x.name = t.proc)) procs with ⟨h1, h2⟩ | ⟨m, hm, h1, h2⟩
  · rw [h2] at hR
    simp only at hR
    subst hR
    rw [h1]
    simp -dsimp [go_sem, hN]
    refine awp_drawQ 9 mixed (by kernel_rfl) (by kernel_rfl) ?_
    simp -dsimp [go_sem, hN]
    refine tgcall_false ?_
    simp -dsimp [go_sem, hN, noProc]
  · rw [h2] at hR
    simp only at hR
    rw [h1]
    simp -dsimp [go_sem, hN]
    refine awp_drawQ 9 mixed (by kernel_rfl) (by kernel_rfl) ?_
    simp -dsimp [go_sem, hN, hm, Txn.c]
    refine tgcall_pure (c_types_Args procs[m] t.args) (by simp) ?_
    simp -dsimp [go_sem, hN]
    refine cnd (fun h3 => ?_) (fun h3 => ?_) <;> simp at h3
    · rw [if_neg (by omega)] at hR
      subst hR
      simp -dsimp [go_sem, hN, noProc]
    · rw [if_pos (by omega)] at hR
      subst hR
      simp -dsimp [go_sem, hN, hm]
variable {tT : TypeId} {tx : Nat × Nat} {g : Nat}
theorem c_serial_One (procs : List Proc) (s : List Pr) (t : Txn) (h : AHeap) (hg : h[g]? = some (tabO tT tx)) (hI : ∀ p, findP procs t = some p → RunIn fmtI p t.args s) (hL : s.length ≤ 60000000000) :
    ACalls Tryz.prog 57 [.slice (procs.map Proc.c), .slice (s.map Pr.c), .agg t.c] h fun r h' => r = .ret (.tuple [.slice ((oneS fmtI procs s t).1.map Pr.c), .agg (oneS fmtI procs s t).2.c]) ∧ h' = h := by
  refine acalls_introB Tryz.func57 rfl (by kernel_rfl) (by simp [Tryz.ntmps57]) ?_
  intro E hN hh hu hb hb' hua
  rw [Tryz.ntmps57] at hN
  refine awp_of_wpC _ _ _ ?_
  have hgl : g < h.length := (List.getElem?_eq_some_iff.1 hg).1
  have hg' : ∀ l : AHeap, (h ++ l)[g]? = some (tabO tT tx) := fun l => by rw [List.getElem?_append_left hgl]; exact hg
  simp [go_sem] at hb
  obtain ⟨R, hR⟩ : ∃ R, oneS fmtI procs s t = R := ⟨_, rfl⟩
  rw [hR]
  unfold oneS at hR
  simp -dsimp [go_sem, hN, Txn.c]
  refine tcall_pure (c_serial_find procs t) ?_
  rcases hF : findP procs t with _ | p
  · rw [hF] at hR
    simp only at hR
    subst hR
    simp -dsimp [go_sem, hN, noProc]
    refine tcall_pure (c_Clone_P s) ?_
    simp -dsimp [go_sem, hN, wrongE]
    exact ⟨_, .refl _, h, by simp [go_sem], hwk.app0 _, Nat.le_refl _, hu, rfl, rfl⟩
  · rw [hF] at hR
    simp only at hR
    have hRun := hI p hF
    have hc1 := fun h => run_commit_ok (fmt := fmtI) (p := p) (args := t.args) (s := s) (ft := t.ft) h
    have hc2 := fun h => (run_commit (ft := t.ft) hRun h).2.2
    have hlw := run_lenW (ft := t.ft) hRun
    have hcall := fun H hH => c_interp_Run (g := g) (tT := tT) (tx := tx) p t.args s t.ft H hH hRun
    obtain ⟨e, he⟩ : ∃ e, runS fmtI p t.args s t.ft = e := ⟨_, rfl⟩
    rw [he] at hR hc1 hc2 hlw
    simp only [he] at hcall
    simp -dsimp [go_sem, hN]
    refine tcall (hcall _ (hg' _)) ?_
    rintro r h' ⟨rfl, rfl⟩
    simp -dsimp [go_sem, hN]
    refine cnd (fun h0 => ?_) (fun h0 => ?_) <;> simp at h0
    · rw [if_pos h0] at hR
      subst hR
      have hA := c_state_Apply s e.writes (by omega)
      rw [hc1 h0, hc2 h0] at hA
      simp only [Bool.and_self, if_true] at hA
      simp -dsimp [go_sem, hN]
      refine tcall_pure hA ?_
      simp -dsimp [go_sem, hN]
      refine awp_drawQ 3 mixed (by kernel_rfl) (by kernel_rfl) ?_
      simp -dsimp [go_sem, hN]
      exact ⟨_, .refl _, h, by simp [go_sem], hwk.app0 _, Nat.le_refl _, hu, rfl, rfl⟩
    · rw [if_neg h0] at hR
      subst hR
      simp -dsimp [go_sem, hN]
      refine awp_drawQ 4 mixed (by kernel_rfl) (by kernel_rfl) ?_
      simp -dsimp [go_sem, hN]
      refine tdcall (c_Clone_P s) (by simp) ?_
      simp -dsimp [go_sem, hN]
      exact ⟨_, .refl _, h, by simp [go_sem], hwk.app0 _, Nat.le_refl _, hu, rfl, rfl⟩
end Go.Proofs.YtcmbmfmpelnimaaGreatDoor

set_option maxRecDepth 4000
set_option maxHeartbeats 2000000
namespace Go.Proofs.YtcmbmfmpelnimaaGreatDoor
open Go Go.Abs Go.Cw
theorem c_occ_writes (e : Eff) (k : Bytes) : APure Tryz.prog 63 [.agg e.c, S k] (Bo (wroteS e k)) := by
  refine apure_introB Tryz.func63 rfl (by kernel_rfl) (by simp [Tryz.ntmps63]) rfl ?_
  intro E h hN hh hu hb
  rw [Tryz.ntmps63] at hN
  refine awp_of_wpC _ _ _ ?_
  simp [go_sem, Eff.c] at hb
  simp -dsimp [go_sem, hN, Eff.c]
  refine cnd (fun h0 => ?_) (fun h0 => ?_) <;> simp at h0
  · simp -dsimp [go_sem, hN]
    simp [wroteS, h0]
  simp -dsimp [go_sem, hN]
  refine awp_loopN e.writes.length (fun n => anyL (fun p : Pr => decide (p.key = k)) (e.writes.drop n) = hasP e.writes k) (fun n => ⟨[(1, S k), (12, .slice (e.writes.map Pr.c)), (13, I e.writes.length), (14, I n)], h ++ [.cells e.c]⟩) (by simp [hasP]) (Wk.mk (by simp [hh]) (by simp [go_sem]) (by simp [hu, hUnder_ext hu, go_sem]) (by simp [go_sem, Eff.c])) ?_
  intro n hn hI
  have hw := wrapS hn (show _ ≤ 68719476736 by omega)
  simp -dsimp [go_sem, hN]
  refine cnd (fun hc => ?_) (fun hc => ?_) <;> simp at hc
  · rw [drop_next hc, anyL] at hI
    simp -dsimp [go_sem, hN, hc]
    refine cnd (fun h1 => ?_) (fun h1 => ?_) <;> simp at h1
    · simp -dsimp [go_sem, hN]
      simp [wroteS, h0, ← hI, h1]
    · simp -dsimp [go_sem, hN, hw]
      exact ⟨hc, by simpa [h1] using hI, (Wk.mk (by simp [hh]) (by simp [go_sem]) (by simp [hu, hUnder_ext hu, go_sem]) (by simp [go_sem]))⟩
  · rw [List.drop_eq_nil_of_le (by omega), anyL] at hI
    simp -dsimp [go_sem, hN]
    simp [wroteS, h0, ← hI]
theorem c_occ_Valid (e : Eff) (l : List Eff) : APure Tryz.prog 24 [.agg e.c, .slice (l.map Eff.c)] (Bo (validO e l)) := by
  refine apure_introB Tryz.func24 rfl (by kernel_rfl) (by simp [Tryz.ntmps24]) rfl ?_
  intro E h hN hh hu hb
  rw [Tryz.ntmps24] at hN
  refine awp_of_wpC _ _ _ ?_
  simp [go_sem, Eff.c] at hb
  simp -dsimp [go_sem, hN, Eff.c]
  refine awp_loopN e.reads.length (fun n => (!((e.reads.drop n).any fun k => l.any fun x => wroteS x k)) = validO e l) (fun n => ⟨[(1, .slice (l.map Eff.c)), (10, .slice (e.reads.map sRow)), (11, I e.reads.length), (12, I n)], h ++ [.cells e.c]⟩) (by simp [validO]) (Wk.mk (by simp [hh]) (by simp [go_sem]) (by simp [hu, hUnder_ext hu, go_sem]) (by simp [go_sem, Eff.c])) ?_
  intro n hn hI
  have hw := wrapS hn (show _ ≤ 68719476736 by omega)
  simp -dsimp [go_sem, hN]
  refine cnd (fun hc => ?_) (fun hc => ?_) <;> simp at hc
  · rw [drop_next hc, List.any_cons] at hI
    simp -dsimp [go_sem, hN, hc]
    refine awp_loopN l.length (fun m => ((l.drop m).any fun x => wroteS x e.reads[n]) = (l.any fun x => wroteS x e.reads[n])) (fun m => ⟨[(1, .slice (l.map Eff.c)), (6, S e.reads[n]), (10, .slice (e.reads.map sRow)), (11, I e.reads.length), (12, I n), (16, .slice (l.map Eff.c)), (17, I l.length), (18, I m)], h ++ [.cells e.c]⟩) (by simp) (Wk.mk (by simp [hh]) (by simp [go_sem]) (by simp [hu, hUnder_ext hu, go_sem]) (by simp [go_sem, Eff.c])) ?_
    intro m hm hJ
    have hw2 := wrapS hm (show _ ≤ 68719476736 by omega)
    simp -dsimp [go_sem, hN]
    refine cnd (fun hd => ?_) (fun hd => ?_) <;> simp at hd
    · rw [drop_next hd, List.any_cons] at hJ
      simp -dsimp [go_sem, hN, hd, Eff.c]
      refine tcall_pure (c_occ_writes l[m] e.reads[n]) ?_
      simp -dsimp [go_sem, hN]
      refine cnd (fun h1 => ?_) (fun h1 => ?_) <;> try simp at h1
      · simp -dsimp [go_sem, hN]
        rw [h1] at hJ
        rw [← hI, ← hJ]
        simp
      · simp -dsimp [go_sem, hN, hw2]
        exact ⟨hd, by simpa [h1] using hJ, (Wk.mk (by simp [hh]) (by simp [go_sem]) (by simp [hu, hUnder_ext hu, go_sem]) (by simp [go_sem, Eff.c]))⟩
    · rw [List.drop_eq_nil_of_le (by omega), List.any_nil] at hJ
      simp -dsimp [go_sem, hN, hw]
      exact ⟨hc, by rw [← hI, ← hJ]; simp, (Wk.mk (by simp [hh]) (by simp [go_sem]) (by simp [hu, hUnder_ext hu, go_sem]) (by simp [go_sem]))⟩
  · rw [List.drop_eq_nil_of_le (by omega)] at hI
    simp -dsimp [go_sem, hN]
    rw [← hI]
    simp
variable {tT : TypeId} {tx : Nat × Nat} {g : Nat}
theorem c_occ_Speculate (procs : List Proc) (s : List Pr) (l : List Txn) (h : AHeap) (hg : h[g]? = some (tabO tT tx)) (hB : BatchIn fmtI procs l) (hs : rngL s) (hL : s.length ≤ 60000000000) :
    ACalls Tryz.prog 21 [.slice (procs.map Proc.c), .slice (s.map Pr.c), .slice (l.map Txn.c)] h fun r h' => r = .ret (.slice ((specS fmtI procs s l).map Eff.c)) ∧ h' = h := by
  refine acalls_introB Tryz.func21 rfl (by kernel_rfl) (by simp [Tryz.ntmps21]) ?_
  intro E hN hh hu hb hb' hua
  rw [Tryz.ntmps21] at hN
  refine awp_of_wpC _ _ _ ?_
  have hgl : g < h.length := (List.getElem?_eq_some_iff.1 hg).1
  have hg' : ∀ l : AHeap, (h ++ l)[g]? = some (tabO tT tx) := fun l => by rw [List.getElem?_append_left hgl]; exact hg
  simp [go_sem] at hb
  simp -dsimp [go_sem, hN]
  refine awp_loopN l.length (fun n => True) (fun n => ⟨[(0, .slice (procs.map Proc.c)), (1, .slice (s.map Pr.c)), (7, .own h.length n), (12, .slice (l.map Txn.c)), (13, I l.length), (14, I n)], h ++ [.arr 37 8 ((specS fmtI procs s (l.take n)).map Eff.c)]⟩) trivial ((nil_wk E _ 7 37 8 (by simp [go_sem])).trans ?_) ?_
  · simp [specS]
    exact (Wk.mk (by simp [hh]) (by simp [go_sem]) (by simp [hu, hUnder_ext hu, go_sem]) (by simp [go_sem]))
  intro n hn _
  have hw := wrapS hn (show _ ≤ 68719476736 by omega)
  have hsl : (specS fmtI procs s (l.take n)).length = n := by simp [specS]; omega
  simp -dsimp [go_sem, hN]
  refine cnd (fun hc => ?_) (fun hc => ?_) <;> simp at hc
  · have hone := fun H hH => c_serial_One (g := g) (tT := tT) (tx := tx) procs s l[n] H hH (runIn_one hB hs (List.getElem_mem hc)) hL
    have hnx := spec_next (fmt := fmtI) (procs := procs) (s := s) hc
    obtain ⟨O, hO⟩ : ∃ O, oneS fmtI procs s l[n] = O := ⟨_, rfl⟩
    rw [hO] at hnx
    simp only [hO] at hone
    simp -dsimp [go_sem, hN, hc, Txn.c]
    refine tcall (hone _ (hg' _)) ?_
    rintro r h' ⟨rfl, rfl⟩
    simp -dsimp [go_sem, hN, hw, hsl, Eff.c]
    refine ⟨by omega, hc, ?_⟩
    rw [hnx]
    exact (Wk.mk (by simp [hh]) (by simp [go_sem]) (by simp [hu, hUnder_ext hu, go_sem]) (by simp [go_sem, Eff.c]))
  · simp -dsimp [go_sem, hN]
    rw [if_pos hsl, List.take_of_length_le (by omega)]
    exact ⟨_, .refl _, h, by simp [go_sem], hwk.app0 _, Nat.le_refl _, hu, rfl, rfl⟩
theorem c_occ_Round0 (procs : List Proc) (s : List Pr) (l : List Txn) (h : AHeap) (hg : h[g]? = some (tabO tT tx)) (hB : BatchIn fmtI procs l) (hs : rngL s) (hL : s.length + 64 * l.length ≤ 60000000000) :
    ACalls Tryz.prog 17 [.slice (procs.map Proc.c), .slice (s.map Pr.c), .slice (l.map Txn.c)] h fun r h' => r = .ret (.tuple [.slice ((occS fmtI procs s l).1.map Pr.c), .own h.length l.length, .own (h.length + 1) l.length]) ∧ h' = h ++ [.uarr 37 8 ((occS fmtI procs s l).2.1.map Eff.c), .uarr 4 1 ((occS fmtI procs s l).2.2.map bRow)] := by
  refine acalls_introB Tryz.func17 rfl (by kernel_rfl) (by simp [Tryz.ntmps17]) ?_
  intro E hN hh hu hb hb' hua
  rw [Tryz.ntmps17] at hN
  have hgl : g < h.length := (List.getElem?_eq_some_iff.1 hg).1
  have hg' : ∀ l : AHeap, (h ++ l)[g]? = some (tabO tT tx) := fun l => by rw [List.getElem?_append_left hgl]; exact hg
  simp [go_sem] at hb
  refine awp_seq (awp_ops ?_)
  simp [go_sem, hN]
  refine awp_seq (awp_of_wpC _ _ _ ?_)
  simp -dsimp [go_sem, hN]
  refine tcall (c_occ_Speculate procs s l _ hg hB hs (by omega)) ?_
  rintro r h' ⟨rfl, he⟩
  rw [he]
  simp -dsimp [go_sem, hN]
  refine awp_seq (awp_opsT [_, _] _ ?_)
  simp [go_sem, hN]
  intro c a w sm k
  refine wp_makeT sm k (el := 37) (x := .tmp 22) (d1 := 23) (n := l.length) (sz := 8) (zr := [I 0, I 0, .slice [], .slice [], .slice [], .slice [], S em, I 0]) rfl rfl (by omega) rfl (by simp [go_sem]) (by simp [go_sem]) (by simp [go_sem]) (by omega) (by simp [go_sem]) (by simp [go_sem]) (by simp [go_sem, nilz]) (by simp [go_sem]) (by simp [go_sem]) (by omega) fun c' a' w' s' k' => ?_
  refine opsF_sound _ [_, _, _] _ rfl ?_ c' a' w' s' k'
  simp [go_sem, hN]
  refine awp_seq (awp_opsT [_, _] _ ?_)
  simp [go_sem, hN]
  intro c a w sm k
  refine wp_copyA sm k (el := 37) (sz := 8) (i := h.length) (n := l.length) (d1 := 26) (x := .tmp 24) (y := .tmp 25) (rows := List.replicate l.length [I 0, I 0, .slice [], .slice [], .slice [], .slice [], S em, I 0]) (rows2 := (specS fmtI procs s l).map Eff.c) rfl rfl (by omega) rfl (by simp [go_sem]) (by simp [go_sem]) (by simp [go_sem]) (by omega) (by simp [go_sem]) (by simp [go_sem]) (by simp [go_sem]) (by simp) (by simp) (by simp [specS]) (by intro r hr; simp only [List.mem_map] at hr; obtain ⟨e, _, rfl⟩ := hr; rfl) fun a' w' s' k' => ?_
  refine opsF_sound _ [_, _, _] _ rfl ?_ _ a' w' s' k'
  simp [go_sem, hN]
  refine awp_seq (awp_opsT [_, _] _ ?_)
  simp [go_sem, hN]
  intro c a w sm k
  refine wp_makeT sm k (el := 4) (x := .tmp 28) (d1 := 29) (n := l.length) (sz := 1) (zr := [Bo false]) rfl rfl (by omega) rfl (by simp [go_sem]) (by simp [go_sem]) (by simp [go_sem]) (by omega) (by simp [go_sem]) (by simp [go_sem]) (by simp [go_sem, nilz]) (by simp [go_sem]) (by simp [go_sem]) (by omega) fun c' a' w' s' k' => ?_
  refine opsF_sound _ [_, _, _] _ rfl ?_ c' a' w' s' k'
  simp [go_sem, hN]
  apply awp_of_wpC
  simp -dsimp [go_sem, hN]
  refine ⟨by omega, ?_⟩
  refine awp_loopN l.length (fun n => True) (fun n => ⟨[(0, .slice (procs.map Proc.c)), (10, .own h.length l.length), (11, .own (h.length + 1) l.length), (12, .slice ((occS fmtI procs s (l.take n)).1.map Pr.c)), (32, .slice (l.map Txn.c)), (33, I l.length), (34, I n)], h ++ [.uarr 37 8 ((occF fmtI procs s l n).map Eff.c), .uarr 4 1 ((occG fmtI procs s l n).map bRow)]⟩) trivial ?_ ?_
  · simp [occF_0, occG_0, occS, bRow]
    exact ((norm_wk E _).trans (Wk.mk (by simp [hh]) (by simp [go_sem]) (by simp [hu, hUnder_ext hu, go_sem]) (by simp [go_sem, bRow])))
  intro n hn _
  have hw := wrapS hn (show _ ≤ 68719476736 by omega)
  obtain ⟨hrs, hrl⟩ := occ_stepState (fmt := fmtI) hs hB n hn
  simp -dsimp [go_sem, hN]
  refine cnd (fun hc => ?_) (fun hc => ?_) <;> simp at hc
  · have hF1 := occF_get (fmt := fmtI) (procs := procs) (s := s) hc
    have hF2 := occF_take (fmt := fmtI) (procs := procs) (s := s) hn
    have hFl := occF_len (fmt := fmtI) (procs := procs) (s := s) hn
    have hGl := occG_len (fmt := fmtI) (procs := procs) (s := s) hn
    have hok := occ_stepOk (fmt := fmtI) (procs := procs) (s := s) hc
    have hag := occ_stepAgain (fmt := fmtI) (procs := procs) (s := s) hc
    have hw0 := (one_ok (procs := procs) (t := l[n]) hB.fmt hB.body (hB.args _ (List.getElem_mem hc)) hs).wrs
    have hwO := (one_ok (procs := procs) (t := l[n]) hB.fmt hB.body (hB.args _ (List.getElem_mem hc)) hrs).wrs
    have hone := fun H hH => c_serial_One (g := g) (tT := tT) (tx := tx) procs (occS fmtI procs s (l.take n)).1 l[n] H hH (runIn_one hB hrs (List.getElem_mem hc)) (by omega)
    obtain ⟨F, hF⟩ : ∃ F, occF fmtI procs s l n = F := ⟨_, rfl⟩
    obtain ⟨G, hG⟩ : ∃ G, occG fmtI procs s l n = G := ⟨_, rfl⟩
    obtain ⟨e0, he0⟩ : ∃ e, (oneS fmtI procs s l[n]).2 = e := ⟨_, rfl⟩
    obtain ⟨D, hD⟩ : ∃ D, (occS fmtI procs s (l.take n)).2.1 = D := ⟨_, rfl⟩
    rw [hF] at hF1 hF2 hFl hok hag
    rw [hG] at hGl hok hag
    rw [he0] at hF1 hok hag hw0
    rw [hD] at hF2 hok hag
    obtain ⟨N0, hN0⟩ : ∃ N0, (occS fmtI procs s (l.take n)).1 = N0 := ⟨_, rfl⟩
    rw [hN0] at hrl hok hag hwO
    simp only [hN0] at hone
    obtain ⟨O, hO⟩ : ∃ O, oneS fmtI procs N0 l[n] = O := ⟨_, rfl⟩
    rw [hO] at hag hwO
    simp only [hO] at hone
    simp only [hF, hG, hN0]
    have hnF : n < F.length := by omega
    have hFn : F[n] = e0 := by have := hF1; rw [List.getElem?_eq_getElem hnF] at this; exact Option.some.inj this
    have hnG : n < G.length := by omega
    have hgs : ∀ X : List AV, ((F.map Eff.c).set n X)[n]? = some X := fun X => by simp [hnF]
    simp -dsimp [go_sem, hN, hc, Txn.c]
    refine awp_lendQ 7 mixed (by kernel_rfl) (by kernel_rfl) (i := h.length) (t := 37) (sz := 8) (r := 47) (rows := F.map Eff.c) (bv := .bool (!validO e0 D)) [(10, .slice (F.map Eff.c)), (13, I n)] (by simp) ?_ ?_ ?_ ?_
    · intro p hp
      simp only [List.mem_cons, List.not_mem_nil, or_false] at hp
      rcases hp with rfl | rfl
      · right
        simp [go_sem, hFl]
      · left
        simp [go_sem]
    · simp [go_sem]
    · intro E' hE'
      have hN' := hE'.trans hN
      have hF3 : (F.map Eff.c).take n = D.map Eff.c := by rw [← hF2, List.map_take]
      simp -dsimp [go_sem, hN', hFn, hnF, hF3, Eff.c]
      refine ⟨by omega, ?_⟩
      refine tcall_pure (c_occ_Valid e0 D) ?_
      simp -dsimp [go_sem, hN']
    simp -dsimp [go_sem, hN]
    refine cnd (fun h1 => ?_) (fun h1 => ?_) <;> simp at h1
    · obtain ⟨hF1', hG1', hN1'⟩ := hag (by simp [h1])
      simp -dsimp [go_sem, hN, hnG, hc, bRow]
      refine ⟨hGl, ?_⟩
      refine tcall (hone _ (hg' _)) ?_
      rintro r h' ⟨rfl, rfl⟩
      simp -dsimp [go_sem, hN, hnF, hFl, hgs, hF1, Eff.c]
      repeat refine ⟨by omega, ?_⟩
      refine cnd (fun h2 => ?_) (fun h2 => ?_) <;> simp at h2
      · simp -dsimp [go_sem, hN, hw]
        rw [hF1', hG1', hN1', show applyE N0 O.2 = N0 by unfold applyE; rw [if_neg (fun g => h2 g.1)]]
        exact ⟨hc, (Wk.mk (by simp [hh]) (by simp [go_sem, Eff.c, bRow]) (by simp [hu, hUnder_ext hu, go_sem]) (by simp [go_sem]))⟩
      have hA := c_state_Apply N0 O.2.writes (by omega)
      simp -dsimp [go_sem, hN, hnF, hFl, hgs, hF1, Eff.c]
      repeat refine ⟨by omega, ?_⟩
      by_cases hok2 : stateOk N0 = true ∧ writesOk O.2.writes = true
      · rw [hok2.1, hok2.2] at hA
        simp only [Bool.and_self, if_true] at hA
        refine tcall_pure hA ?_
        simp -dsimp [go_sem, hN, hw]
        rw [hF1', hG1', hN1', show applyE N0 O.2 = applyP N0 O.2.writes by unfold applyE; rw [if_pos ⟨h2, hok2⟩]]
        exact ⟨hc, (Wk.mk (by simp [hh]) (by simp [go_sem, Eff.c, bRow]) (by simp [hu, hUnder_ext hu, go_sem]) (by simp [go_sem]))⟩
      · rw [if_neg (by simpa using hok2)] at hA
        refine tcall_pure hA ?_
        simp -dsimp [go_sem, hN, hw]
        rw [hF1', hG1', hN1', show applyE N0 O.2 = N0 by unfold applyE; rw [if_neg (fun g => hok2 g.2)]]
        exact ⟨hc, (Wk.mk (by simp [hh]) (by simp [go_sem, Eff.c, bRow]) (by simp [hu, hUnder_ext hu, go_sem]) (by simp [go_sem]))⟩
    · obtain ⟨hF1', hG1', hN1'⟩ := hok h1
      simp -dsimp [go_sem, hN, hnF, hFl, hgs, hF1, hFn, Eff.c]
      repeat refine ⟨by omega, ?_⟩
      refine cnd (fun h2 => ?_) (fun h2 => ?_) <;> simp at h2
      · simp -dsimp [go_sem, hN, hw]
        rw [hF1', hG1', hN1', show applyE N0 e0 = N0 by unfold applyE; rw [if_neg (fun g => h2 g.1)]]
        exact ⟨hc, (Wk.mk (by simp [hh]) (by simp [go_sem, Eff.c, bRow]) (by simp [hu, hUnder_ext hu, go_sem]) (by simp [go_sem]))⟩
      have hA := c_state_Apply N0 e0.writes (by omega)
      simp -dsimp [go_sem, hN, hnF, hFl, hgs, hF1, hFn, Eff.c]
      repeat refine ⟨by omega, ?_⟩
      by_cases hok2 : stateOk N0 = true ∧ writesOk e0.writes = true
      · rw [hok2.1, hok2.2] at hA
        simp only [Bool.and_self, if_true] at hA
        refine tcall_pure hA ?_
        simp -dsimp [go_sem, hN, hw]
        rw [hF1', hG1', hN1', show applyE N0 e0 = applyP N0 e0.writes by unfold applyE; rw [if_pos ⟨h2, hok2⟩]]
        exact ⟨hc, (Wk.mk (by simp [hh]) (by simp [go_sem, Eff.c, bRow]) (by simp [hu, hUnder_ext hu, go_sem]) (by simp [go_sem]))⟩
      · rw [if_neg (by simpa using hok2)] at hA
        refine tcall_pure hA ?_
        simp -dsimp [go_sem, hN, hw]
        rw [hF1', hG1', hN1', show applyE N0 e0 = N0 by unfold applyE; rw [if_neg (fun g => hok2 g.2)]]
        exact ⟨hc, (Wk.mk (by simp [hh]) (by simp [go_sem, Eff.c, bRow]) (by simp [hu, hUnder_ext hu, go_sem]) (by simp [go_sem]))⟩
  · have hn2 : n = l.length := by omega
    subst hn2
    rw [occF_end, occG_end, List.take_length]
    simp -dsimp [go_sem, hN]
    exact ⟨_, .refl _, h ++ [.uarr 37 8 ((occS fmtI procs s l).2.1.map Eff.c), .uarr 4 1 ((occS fmtI procs s l).2.2.map bRow)], by simp [go_sem], hwk.refl _, by simp, by simp [hUnder_ext hu, go_sem], rfl, rfl⟩
theorem c_occ_Round (procs : List Proc) (s : List Pr) (l : List Txn) (h : AHeap) (hg : h[g]? = some (tabO tT tx)) (hB : BatchIn fmtI procs l) (hs : rngL s) (hL : s.length + 64 * l.length ≤ 60000000000) :
    ACalls Tryz.prog 17 [.slice (procs.map Proc.c), .slice (s.map Pr.c), .slice (l.map Txn.c)] h fun r h' => r = .ret (.tuple [.slice ((occS fmtI procs s l).1.map Pr.c), .slice ((occS fmtI procs s l).2.1.map Eff.c), .slice ((occS fmtI procs s l).2.2.map bRow)]) ∧ h' = h := by
  obtain ⟨hEl, hMl⟩ := occ_len (fmt := fmtI) (procs := procs) (s := s) l
  refine ⟨(c_occ_Round0 procs s l h hg hB hs hL).1, fun cx wx vx hsx hax => ?_⟩
  have hu := hsx.hUnder
  refine (acalls_ret (fun E hE => ?_) (c_occ_Round0 procs s l h hg hB hs hL)).2 cx wx vx hsx hax
  refine (demote_wk E _ (i := h.length) (t := 37) (sz := 8) (rows := (occS fmtI procs s l).2.1.map Eff.c) (by simp)).trans ?_
  simp
  refine (demote_wk E _ (i := h.length + 1) (t := 4) (sz := 1) (rows := (occS fmtI procs s l).2.2.map bRow) (by simp)).trans ?_
  simp
  refine (norm_wk E _).trans ?_
  exact Wk.mk (by simp [hE]) (by simpa [go_sem] using hwk.app0 _) (by simpa using hu) (by simp [go_sem, AV.norm, normL, wkT, hEl, hMl])
end Go.Proofs.YtcmbmfmpelnimaaGreatDoor

set_option maxRecDepth 8000
set_option maxHeartbeats 2000000
namespace Go.Proofs.YtcmbmfmpelnimaaGreatDoor
open Go Go.Abs Go.Cw
def bk : Bytes := ⟨#[107]⟩
def bn : Bytes := ⟨#[110]⟩
def bx : Bytes := ⟨#[120]⟩
def addP : Proc := ⟨⟨#[97, 100, 100]⟩, [⟨bk, 2⟩, ⟨bn, 1⟩], [.mk 3 em 0 (.mk 3 0 bk []) (.mk 4 0 em [.mk 22 0 em [.mk 3 0 bk []], .mk 3 0 bn []]) [] []]⟩
theorem ok_digit (k : Nat) (h : k < 10) : okB (UInt8.ofNat (48 + k)) = true := by
  have : ∀ k : Fin 10, okB (UInt8.ofNat (48 + k.val)) = true := by decide
  exact this ⟨k, h⟩
theorem ok_digits : ∀ (u : Nat), ∀ b ∈ Lib.decDigits u, okB b = true := by
  intro u
  induction u using Nat.strongRecOn with
  | ind u ih =>
    intro b hb
    rw [Lib.decDigits] at hb
    split at hb
    · rename_i h
      simp only [List.mem_singleton] at hb
      subst hb
      exact ok_digit _ h
    · rename_i h
      rw [List.mem_append] at hb
      rcases hb with hb | hb
      · exact ih (u / 10) (by omega) b hb
      · simp only [List.mem_singleton] at hb
        subst hb
        exact ok_digit _ (Nat.mod_lt _ (by decide))
theorem plain_itoa (n : Int) (hn : i64 n) : plainS (fmtI n) = true := by
  have hl := Lib.itoa_length_le n hn.1 hn.2
  unfold plainS
  rw [Bool.and_eq_true, decide_eq_true_eq, allL_iff]
  refine ⟨fun b hb => ?_, ?_⟩
  · have hb : b ∈ Lib.itoa n := by simpa [bl, fmtI] using hb
    unfold Lib.itoa at hb
    split at hb
    · rcases List.mem_cons.1 hb with rfl | hb
      · decide
      · exact ok_digits _ b hb
    · exact ok_digits _ b hb
  · show (((Lib.itoa n).toArray.size : Nat) : Int) ≤ 64
    rw [List.size_toArray]
    omega
section
variable {tT : TypeId} {tx : Nat × Nat} {g : Nat}
end
end Go.Proofs.YtcmbmfmpelnimaaGreatDoor

set_option maxRecDepth 8000
set_option maxHeartbeats 2000000
namespace Go.Proofs.YtcmbmfmpelnimaaGreatDoor
open Go Go.Abs Go.Cw
theorem sameL_refl {α : Type} {f : α → α → Bool} (hf : ∀ x, f x x = true) : ∀ l, sameL f l l = true
  | [] => rfl
  | x :: l => by simp [sameL, hf, sameL_refl hf l]
theorem sameE_refl (e : Eff) : sameE e e = true := by
  simp [sameE, sameL_refl (f := eqVal) (fun x => by simp [eqVal]), sameL_refl (f := eqB) (fun x => by simp [eqB]), sameL_refl (f := eqP) (fun x => by simp [eqP, eqVal])]
variable {tT : TypeId} {tx : Nat × Nat} {g : Nat}
end Go.Proofs.YtcmbmfmpelnimaaGreatDoor

set_option maxRecDepth 8000
set_option maxHeartbeats 2000000
namespace Go.Proofs.YtcmbmfmpelnimaaGreatDoor
open Go Go.Abs Go.Cw
theorem sameL_len {α : Type} {f : α → α → Bool} : ∀ (a b : List α), sameL f a b = true → a.length = b.length
  | [], [], _ => rfl
  | x :: a, y :: b, h => by
    rw [sameL, Bool.and_eq_true] at h
    simp [sameL_len a b h.2]
  | [], _ :: _, h => by simp [sameL] at h
  | _ :: _, [], h => by simp [sameL] at h
theorem c_law27_sameEffects (a b : List Eff) : APure Tryz.prog 20 [.slice (a.map Eff.c), .slice (b.map Eff.c)] (Bo (sameL sameE a b)) := by
  refine apure_introB Tryz.func20 rfl (by kernel_rfl) (by simp [Tryz.ntmps20]) rfl ?_
  intro E h hN hh hu hb
  rw [Tryz.ntmps20] at hN
  refine awp_of_wpC _ _ _ ?_
  simp [go_sem] at hb
  simp -dsimp [go_sem, hN]
  refine cnd (fun h0 => ?_) (fun h0 => ?_) <;> simp at h0
  · have h1 : sameL sameE a b = false := by
      rcases Bool.eq_false_or_eq_true (sameL sameE a b) with g | g
      · exact (h0 (by exact_mod_cast sameL_len a b g)).elim
      · exact g
    simp -dsimp [go_sem, hN, h1]
  have h0 : a.length = b.length := by omega
  simp -dsimp [go_sem, hN]
  refine awp_loopN a.length (fun n => sameL sameE (a.drop n) (b.drop n) = sameL sameE a b) (fun n => ⟨[(0, .slice (a.map Eff.c)), (1, .slice (b.map Eff.c)), (5, I n)], h⟩) (by simp) (Wk.mk (by simp [hh]) (by simp [go_sem]) (by simp [hu, hUnder_ext hu, go_sem]) (by simp [go_sem])) ?_
  intro n hn hI
  have hw := wrapS hn (show _ ≤ 68719476736 by omega)
  simp -dsimp [go_sem, hN]
  refine cnd (fun hc => ?_) (fun hc => ?_) <;> simp at hc
  · have hc2 : n < b.length := by omega
    rw [drop_next hc, drop_next hc2, sameL] at hI
    simp -dsimp [go_sem, hN, hc, hc2]
    refine awp_drawQ 8 mixed (by kernel_rfl) (by kernel_rfl) ?_
    simp -dsimp [go_sem, hN, hc, hc2, Eff.c]
    refine tcall_pure (c_ref15_Same a[n] b[n]) ?_
    simp -dsimp [go_sem, hN]
    refine cnd (fun h1 => ?_) (fun h1 => ?_) <;> simp at h1
    · rw [h1] at hI
      simp -dsimp [go_sem, hN, ← hI]
    · rw [h1] at hI
      simp -dsimp [go_sem, hN, hw]
      exact ⟨hc, by simpa using hI, (Wk.mk (by simp [hh]) (by simp [go_sem]) (by simp [hu, hUnder_ext hu, go_sem]) (by simp [go_sem]))⟩
  · rw [List.drop_eq_nil_of_le (show a.length ≤ n by omega), List.drop_eq_nil_of_le (show b.length ≤ n by omega), sameL] at hI
    simp -dsimp [go_sem, hN, ← hI]
def bAdd : Bytes := ⟨#[97, 100, 100]⟩
def bw : Bytes := ⟨#[121]⟩
def add27 : Proc := ⟨bAdd, [⟨bk, 2⟩], [.mk 3 em 0 (.mk 3 0 bk []) (.mk 4 0 em [.mk 22 0 em [.mk 3 0 bk []], .mk 1 1 em []]) [] []]⟩
def call27 (id : Int) (k : Bytes) : Txn := ⟨id, bAdd, [vS k], ⟨false, [k], [k]⟩, 1⟩
theorem c_law27_add : APure Tryz.prog 61 [] (.agg add27.c) := by
  refine apure_introB Tryz.func61 rfl (by kernel_rfl) (by simp [Tryz.ntmps61]) rfl ?_
  intro E h hN hh hu hb
  rw [Tryz.ntmps61] at hN
  refine awp_of_wpC _ _ _ ?_
  simp -dsimp [go_sem, hN]
  exact ⟨rfl, rfl, rfl⟩
theorem c_law27_call (id : Int) (k : Bytes) : APure Tryz.prog 62 [I id, S k] (.agg (call27 id k).c) := by
  refine apure_introB Tryz.func62 rfl (by kernel_rfl) (by simp [Tryz.ntmps62]) rfl ?_
  intro E h hN hh hu hb
  rw [Tryz.ntmps62] at hN
  refine awp_of_wpC _ _ _ ?_
  simp -dsimp [go_sem, hN]
  rfl
def E27a : Eff := ⟨1, 0, [], [bx], [bx], [⟨bx, vI 1⟩], em, 1⟩
def E27b : Eff := ⟨1, 0, [], [bx], [bx], [⟨bx, vI 2⟩], em, 1⟩
def E27c : Eff := ⟨1, 0, [], [bw], [bw], [⟨bw, vI 1⟩], em, 1⟩
def st27 : List Pr := [⟨bx, vI 2⟩, ⟨bw, vI 1⟩]
def txns27 : List Txn := [call27 1 bx, call27 2 bx, call27 3 bw]
theorem ex27 : occS fmtI [add27] [] txns27 = (st27, [E27a, E27b, E27c], [false, true, false]) := by kernel_rfl
theorem ex27b : validO E27b [E27a] = false := by kernel_rfl
theorem ex27c : validO E27c [E27a, E27b] = true := by kernel_rfl
theorem ex27s : sameL eqP st27 st27 = true := by kernel_rfl
theorem batch27 : BatchIn fmtI [add27] txns27 := by
  refine ⟨plain_itoa, ?_, ?_⟩
  · intro p hp t ht
    simp only [List.mem_singleton] at hp
    subst hp
    simp only [add27, List.mem_singleton] at ht
    subst ht
    have hz : i64 0 := ⟨by decide, by decide⟩
    have h1 : i64 1 := ⟨by decide, by decide⟩
    have hk : rngX (.mk 3 0 bk []) := (rngX_iff _).2 ⟨⟨hz, by decide⟩, by simp [Ex.args]⟩
    have hn : rngX (.mk 1 1 em []) := (rngX_iff _).2 ⟨⟨h1, by decide⟩, by simp [Ex.args]⟩
    have hg : rngX (.mk 22 0 em [.mk 3 0 bk []]) := (rngX_iff _).2 ⟨⟨hz, by decide⟩, by simp [Ex.args, hk]⟩
    refine (rngS_iff _).2 ⟨hk, (rngX_iff _).2 ⟨⟨hz, by decide⟩, by simp [Ex.args, hg, hn, St.b]⟩, by simp [St.body], by simp [St.els]⟩
  · have h2 : ∀ s : Bytes, s.size ≤ 64 → rngV (vS s) := fun s hs => ⟨⟨by simp [vS], by simp [vS]⟩, by simp only [vS]; omega⟩
    intro t ht v hv
    simp only [txns27, List.mem_cons, List.not_mem_nil, or_false] at ht
    rcases ht with rfl | rfl | rfl <;> simp only [call27, List.mem_singleton] at hv <;> subst hv <;> exact h2 _ (by decide)
section
variable {tT : TypeId} {tx : Nat × Nat} {g : Nat}
theorem c_law27_examples (h : AHeap) (hg : h[g]? = some (tabO tT tx)) : ACalls Tryz.prog 23 [] h fun r h' => r = .ret (Bo true) ∧ h' = h := by
  refine acalls_introB Tryz.func23 rfl (by kernel_rfl) (by simp [Tryz.ntmps23]) ?_
  intro E hN hh hu hb hb' hua
  rw [Tryz.ntmps23] at hN
  refine awp_of_wpC _ _ _ ?_
  have hgl : g < h.length := (List.getElem?_eq_some_iff.1 hg).1
  have hg' : ∀ l : AHeap, (h ++ l)[g]? = some (tabO tT tx) := fun l => by rw [List.getElem?_append_left hgl]; exact hg
  have hround := fun H hH => c_occ_Round (g := g) (tT := tT) (tx := tx) [add27] [] txns27 H hH batch27 (by intro q hq; cases hq) (by simp [txns27])
  simp only [ex27] at hround
  have hvb := c_occ_Valid E27b [E27a]
  have hvc := c_occ_Valid E27c [E27a, E27b]
  have hsm := c_ref06_Same st27 st27
  rw [ex27b] at hvb
  rw [ex27c] at hvc
  rw [ex27s] at hsm
  simp -dsimp [go_sem, hN]
  refine tcall_pure c_law27_add ?_
  simp -dsimp [go_sem, hN]
  refine tcall_pure (c_law27_call 1 bx) ?_
  simp -dsimp [go_sem, hN]
  refine tcall_pure (c_law27_call 2 bx) ?_
  simp -dsimp [go_sem, hN]
  refine tcall_pure (c_law27_call 3 bw) ?_
  simp -dsimp [go_sem, hN, Txn.c, call27]
  refine tcall (hround h hg) ?_
  rintro r h' ⟨rfl, rfl⟩
  simp -dsimp [go_sem, hN]
  refine awp_drawQ 49 mixed (by kernel_rfl) (by kernel_rfl) ?_
  simp -dsimp [go_sem, hN, bRow, E27a, E27b, E27c, Eff.c]
  refine tdcall hsm (by simp) ?_
  simp -dsimp [go_sem, hN]
  refine tdcall hvb (by simp) ?_
  simp -dsimp [go_sem, hN]
  refine tgcall_pure hvc (by simp) ?_
  simp -dsimp [go_sem, hN]
  exact ⟨_, .refl _, h', by simp [go_sem], hwk.app0 _, Nat.le_refl _, hu, rfl, rfl⟩
end
end Go.Proofs.YtcmbmfmpelnimaaGreatDoor

set_option maxRecDepth 4000
set_option maxHeartbeats 2000000
namespace Go.Proofs.YtcmbmfmpelnimaaGreatDoor
open Go Go.Abs Go.Cw
variable {tT : TypeId} {tx : Nat × Nat} {g : Nat}
theorem c_serial_with (procs : List Proc) (h : AHeap) :
    ACalls Tryz.prog 65 [.slice (procs.map Proc.c)] h fun r h' => r = .ret (.agg [.fn (.func 111) [] [.ptr h.length 0]]) ∧ h' = h ++ [.cells [.slice (procs.map Proc.c)]] := by
  refine acalls_introB Tryz.func65 rfl (by kernel_rfl) (by simp [Tryz.ntmps65]) ?_
  intro E hN hh hu hb hb' hua
  rw [Tryz.ntmps65] at hN
  refine awp_of_wpC _ _ _ ?_
  simp -dsimp [go_sem, hN]
  exact ⟨_, .refl _, h ++ [.cells [.slice (procs.map Proc.c)]], by simp [go_sem], hwk.app (l := [_, _]) (l' := [_]) ⟨ObjWk.refl _, trivial⟩ h, by simp, by simp [hUnder_ext hu, go_sem], rfl, rfl⟩
theorem c_serial_with1 (procs : List Proc) (s : List Pr) (t : Txn) (h : AHeap) (b : Nat) (hb0 : h[b]? = some (.cells [.slice (procs.map Proc.c)])) (hg : h[g]? = some (tabO tT tx)) (hI : ∀ p, findP procs t = some p → RunIn fmtI p t.args s) (hL : s.length ≤ 60000000000) :
    ACalls Tryz.prog 111 [.slice (s.map Pr.c), .agg t.c, .ptr b 0] h fun r h' => r = .ret (.tuple [.slice ((oneS fmtI procs s t).1.map Pr.c), .agg (oneS fmtI procs s t).2.c]) ∧ h' = h := by
  refine acalls_introB Tryz.func111 rfl (by kernel_rfl) (by simp [Tryz.ntmps111]) ?_
  intro E hN hh hu hb hb' hua
  rw [Tryz.ntmps111] at hN
  refine awp_of_wpC _ _ _ ?_
  have hgl : g < h.length := (List.getElem?_eq_some_iff.1 hg).1
  have hg' : ∀ l : AHeap, (h ++ l)[g]? = some (tabO tT tx) := fun l => by rw [List.getElem?_append_left hgl]; exact hg
  have hbl : b < h.length := (List.getElem?_eq_some_iff.1 hb0).1
  have hb1 : ∀ l : AHeap, (h ++ l)[b]? = some (.cells [.slice (procs.map Proc.c)]) := fun l => by rw [List.getElem?_append_left hbl]; exact hb0
  have hone := fun H hH => c_serial_One (g := g) (tT := tT) (tx := tx) procs s t H hH hI hL
  obtain ⟨O, hO⟩ : ∃ O, oneS fmtI procs s t = O := ⟨_, rfl⟩
  simp only [hO] at hone ⊢
  simp -dsimp [go_sem, hN, hb1, Txn.c]
  refine tcall (hone _ (hg' _)) ?_
  rintro r h' ⟨rfl, rfl⟩
  simp -dsimp [go_sem, hN, Eff.c]
  exact ⟨_, .refl _, h, by simp [go_sem], hwk.app0 _, Nat.le_refl _, hu, rfl, rfl⟩
theorem c_engine_round (procs : List Proc) (s : List Pr) (l : List Txn) (h : AHeap) (b : Nat) (hb0 : h[b]? = some (.cells [.slice (procs.map Proc.c)])) (hg : h[g]? = some (tabO tT tx)) (hB : BatchIn fmtI procs l) (hs : rngL s) (hL : s.length + 64 * l.length ≤ 60000000000) :
    ACalls Tryz.prog 66 [.agg [.fn (.func 111) [] [.ptr b 0]], .slice (s.map Pr.c), .slice (l.map Txn.c)] h fun r h' => r = .ret (.tuple [.slice ((roundS fmtI procs s l).1.map Pr.c), .slice ((roundS fmtI procs s l).2.map Eff.c)]) ∧ h' = h := by
  refine acalls_introB Tryz.func66 rfl (by kernel_rfl) (by simp [Tryz.ntmps66]) ?_
  intro E hN hh hu hb hb' hua
  rw [Tryz.ntmps66] at hN
  refine awp_of_wpC _ _ _ ?_
  have hgl : g < h.length := (List.getElem?_eq_some_iff.1 hg).1
  have hg' : ∀ l : AHeap, (h ++ l)[g]? = some (tabO tT tx) := fun l => by rw [List.getElem?_append_left hgl]; exact hg
  have hbl : b < h.length := (List.getElem?_eq_some_iff.1 hb0).1
  have hb1 : ∀ l : AHeap, (h ++ l)[b]? = some (.cells [.slice (procs.map Proc.c)]) := fun l => by rw [List.getElem?_append_left hbl]; exact hb0
  simp [go_sem] at hb
  simp -dsimp [go_sem, hN]
  refine awp_loopN l.length (fun n => True) (fun n => ⟨[(1, .slice ((roundS fmtI procs s (l.take n)).1.map Pr.c)), (3, P0 h.length), (8, .own (h.length + 1) n), (12, .slice (l.map Txn.c)), (13, I l.length), (14, I n)], h ++ [.cells [.fn (.func 111) [] [.ptr b 0]], .arr 37 8 ((roundS fmtI procs s (l.take n)).2.map Eff.c)]⟩) trivial ((nil_wk E _ 8 37 8 (by simp [go_sem])).trans ?_) ?_
  · simp [roundS]
    exact (Wk.mk (by simp [hh]) (by simp [go_sem]) (by simp [hu, hUnder_ext hu, go_sem]; omega) (by simp [go_sem]))
  intro n hn _
  have hw := wrapS hn (show _ ≤ 68719476736 by omega)
  obtain ⟨hrs, hrl, hrc⟩ := round_stepState (fmt := fmtI) (procs := procs) hs hB n hn
  simp -dsimp [go_sem, hN]
  refine cnd (fun hc => ?_) (fun hc => ?_) <;> simp at hc
  · have hnx := round_next (fmt := fmtI) (procs := procs) (s := s) hc
    have hone := fun H hH hH2 => c_serial_with1 (g := g) (tT := tT) (tx := tx) procs (roundS fmtI procs s (l.take n)).1 l[n] H b hH hH2 (runIn_one hB hrs (List.getElem_mem hc)) (by omega)
    obtain ⟨X, hX⟩ : ∃ X, roundS fmtI procs s (l.take n) = X := ⟨_, rfl⟩
    rw [hX] at hnx hrs hrl hrc
    simp only [hX] at hone ⊢
    obtain ⟨O, hO⟩ : ∃ O, oneS fmtI procs X.1 l[n] = O := ⟨_, rfl⟩
    rw [hO] at hnx
    simp only [hO] at hone
    simp -dsimp [go_sem, hN, hc, Txn.c]
    refine tcall (hone _ (hb1 _) (hg' _)) ?_
    rintro r h' ⟨rfl, rfl⟩
    simp -dsimp [go_sem, hN, hw, hrc, Eff.c]
    refine ⟨by omega, hc, ?_⟩
    rw [hnx]
    exact (Wk.mk (by simp [hh]) (by simp [go_sem, Eff.c]) (by simp [hu, hUnder_ext hu, go_sem]; omega) (by simp [go_sem]))
  · simp -dsimp [go_sem, hN]
    rw [if_pos hrc, List.take_of_length_le (by omega)]
    exact ⟨_, .refl _, h, by simp [go_sem], hwk.app0 _, Nat.le_refl _, hu, rfl, rfl⟩
theorem c_serial_Round (procs : List Proc) (s : List Pr) (l : List Txn) (h : AHeap) (hg : h[g]? = some (tabO tT tx)) (hB : BatchIn fmtI procs l) (hs : rngL s) (hL : s.length + 64 * l.length ≤ 60000000000) :
    ACalls Tryz.prog 26 [.slice (procs.map Proc.c), .slice (s.map Pr.c), .slice (l.map Txn.c)] h fun r h' => r = .ret (.tuple [.slice ((roundS fmtI procs s l).1.map Pr.c), .slice ((roundS fmtI procs s l).2.map Eff.c)]) ∧ h' = h := by
  refine acalls_introB Tryz.func26 rfl (by kernel_rfl) (by simp [Tryz.ntmps26]) ?_
  intro E hN hh hu hb hb' hua
  rw [Tryz.ntmps26] at hN
  refine awp_of_wpC _ _ _ ?_
  have hgl : g < h.length := (List.getElem?_eq_some_iff.1 hg).1
  have hg' : ∀ l : AHeap, (h ++ l)[g]? = some (tabO tT tx) := fun l => by rw [List.getElem?_append_left hgl]; exact hg
  obtain ⟨X, hX⟩ : ∃ X, roundS fmtI procs s l = X := ⟨_, rfl⟩
  have hr := fun H b h1 h2 => c_engine_round (g := g) (tT := tT) (tx := tx) procs s l H b h1 h2 hB hs hL
  simp only [hX] at hr ⊢
  simp -dsimp [go_sem, hN]
  refine tcall (c_serial_with procs h) ?_
  rintro r h' ⟨rfl, rfl⟩
  simp -dsimp [go_sem, hN]
  refine tcall (hr _ h.length (by simp) (hg' _)) ?_
  rintro r h' ⟨rfl, rfl⟩
  simp -dsimp [go_sem, hN]
  refine tcall_pure (c_Clone_P X.1) ?_
  simp -dsimp [go_sem, hN]
  exact ⟨_, .refl _, h, by simp [go_sem], hwk.app0 _, Nat.le_refl _, hu, rfl, rfl⟩
end Go.Proofs.YtcmbmfmpelnimaaGreatDoor

set_option maxRecDepth 8000
set_option maxHeartbeats 2000000
namespace Go.Proofs.YtcmbmfmpelnimaaGreatDoor
open Go Go.Abs Go.Cw
def batC (procs : List Proc) (s : List Pr) (l : List Txn) : List AV := [.slice (procs.map Proc.c), .slice (s.map Pr.c), .slice (l.map Txn.c)]
section
variable {tT : TypeId} {tx : Nat × Nat} {g : Nat}
theorem c_same_refl (l : List Pr) : APure Tryz.prog 19 [.slice (l.map Pr.c), .slice (l.map Pr.c)] (Bo true) := by
  have := c_ref06_Same l l
  rwa [sameL_refl (f := eqP) (fun x => by simp [eqP, eqVal])] at this
theorem c_effs_refl (l : List Eff) : APure Tryz.prog 20 [.slice (l.map Eff.c), .slice (l.map Eff.c)] (Bo true) := by
  have := c_law27_sameEffects l l
  rwa [sameL_refl (f := sameE) sameE_refl] at this
theorem c_law27_OccSerial (procs : List Proc) (s : List Pr) (l : List Txn) (h : AHeap) (hg : h[g]? = some (tabO tT tx)) (hB : BatchIn fmtI procs l) (hs : rngL s) (hL : s.length + 64 * l.length ≤ 60000000000) :
    ACalls Tryz.prog 7 [.agg (batC procs s l)] h fun r h' => r = .ret (Bo true) ∧ h' = h := by
  refine acalls_introB Tryz.func7 rfl (by kernel_rfl) (by simp [Tryz.ntmps7]) ?_
  intro E hN hh hu hb hb' hua
  rw [Tryz.ntmps7] at hN
  refine awp_of_wpC _ _ _ ?_
  have hgl : g < h.length := (List.getElem?_eq_some_iff.1 hg).1
  have hg' : ∀ l : AHeap, (h ++ l)[g]? = some (tabO tT tx) := fun l => by rw [List.getElem?_append_left hgl]; exact hg
  have hocc := fun H hH => c_occ_Round (g := g) (tT := tT) (tx := tx) procs s l H hH hB hs hL
  have hser := fun H hH => c_serial_Round (g := g) (tT := tT) (tx := tx) procs s l H hH hB hs hL
  obtain ⟨o1, o2, o3⟩ := occ_serial (fmt := fmtI) (procs := procs) hs l hB
  obtain ⟨X, hX⟩ : ∃ X, roundS fmtI procs s l = X := ⟨_, rfl⟩
  obtain ⟨M, hM⟩ : ∃ M, (occS fmtI procs s l).2.2 = M := ⟨_, rfl⟩
  rw [hX] at o1 o2
  rw [hM] at o3
  simp only [hX] at hser
  simp only [o1, o2, hM] at hocc
  simp -dsimp [go_sem, hN, batC]
  refine tcall (hocc _ (hg' _)) ?_
  rintro r h' ⟨rfl, rfl⟩
  simp -dsimp [go_sem, hN]
  refine tcall (hser _ (hg' _)) ?_
  rintro r h' ⟨rfl, rfl⟩
  simp -dsimp [go_sem, hN]
  refine tcall_pure (c_same_refl X.1) ?_
  simp -dsimp [go_sem, hN]
  refine tgcall_pure (c_effs_refl X.2) (by simp) ?_
  simp -dsimp [go_sem, hN, o3]
  refine tgcall_true (by simp) ((c_law27_examples _ (hg' _)).mono ?_)
  rintro r h' ⟨rfl, rfl⟩
  simp -dsimp [go_sem, hN, o3]
  exact ⟨_, .refl _, h, by simp [go_sem], hwk.app0 _, Nat.le_refl _, hu, rfl, rfl⟩
end
end Go.Proofs.YtcmbmfmpelnimaaGreatDoor

set_option maxRecDepth 4000
set_option maxHeartbeats 2000000
namespace Go.Proofs.YtcmbmfmpelnimaaGreatDoor
open Go Go.Abs Go.Cw
theorem posS_has {k : Bytes} : ∀ {l : List Bytes}, ascS l → decide (l[posS k l]? = some k) = hasK l k
  | [], _ => by simp [posS, hasK, anyL]
  | x :: l, ha => by
    obtain ⟨h1, h2⟩ := List.pairwise_cons.1 ha
    have ih := posS_has (k := k) h2
    have e : hasK (x :: l) k = (decide (x = k) || hasK l k) := by simp [hasK, anyL]
    rw [posS, e]
    by_cases hx : sLt x k = true
    · rw [if_pos hx, List.getElem?_cons_succ, ih]
      have : x ≠ k := sLt_ne hx
      simp [this]
    · rw [if_neg hx]
      simp only [List.getElem?_cons_zero, Option.some.injEq]
      by_cases hk : x = k
      · simp [hk]
      · have : hasK l k = false := by
          rcases Bool.eq_false_or_eq_true (hasK l k) with g | g
          · exact (hx (h1 k (hasK_iff.1 g))).elim
          · exact g
        simp [hk, this]
theorem leS_iff (a b : Bytes) : (sLt b a = true ∨ b = a) ↔ sLt a b = false := by
  constructor
  · rintro (h | rfl)
    · exact sLt_asymm h
    · exact sLt_irrefl _
  · intro h
    rcases Bool.eq_false_or_eq_true (sLt b a) with g | g
    · exact .inl g
    · exact .inr (sLt_eq (by rw [g]; simp) (by rw [h]; simp))
theorem c_fp_ascending (l : List Bytes) : APure Tryz.prog 112 [.slice (l.map sRow)] (Bo (ascK none l && decide ((l.length : Int) ≤ 64))) := by
  refine apure_introB Tryz.func112 rfl (by kernel_rfl) (by simp [Tryz.ntmps112]) rfl ?_
  intro E h hN hh hu hb
  rw [Tryz.ntmps112] at hN
  refine awp_of_wpC _ _ _ ?_
  simp [go_sem] at hb
  simp -dsimp [go_sem, hN]
  refine awp_loopN l.length (fun n => ascK (prevOf l n) (l.drop n) = ascK none l) (fun n => ⟨[(0, .slice (l.map sRow)), (5, .slice (l.map sRow)), (6, I l.length), (7, I n)], h⟩) (by simp [prevOf]) (Wk.mk (by simp [hh]) (by simp [go_sem]) (by simp [hu, hUnder_ext hu, go_sem]) (by simp [go_sem])) ?_
  intro n hn hI
  have hw := wrapS hn hb.1
  simp -dsimp [go_sem, hN]
  refine cnd (fun hc => ?_) (fun hc => ?_) <;> try simp at hc
  · rw [drop_next hc, ascK] at hI
    simp -dsimp [go_sem, hN, hc]
    refine tcall_pure (c_keys_Valid _) ?_
    cases n with
    | zero =>
      simp -dsimp [go_sem, hN]
      refine cnd (fun hg => ?_) (fun hg => ?_) <;> try simp at hg
      · simp -dsimp [go_sem, hN]
        simp [← hI, hg, prevOf, after]
      · simp -dsimp [go_sem, hN, hw]
        exact ⟨hc, by simpa [hg, prevOf, hc, after] using hI, (Wk.mk (by simp [hh]) (by simp [go_sem]) (by simp [hu, hUnder_ext hu, go_sem]) (by simp [go_sem]))⟩
    | succ m =>
      have hm : m < l.length := by omega
      have hw2 := wrapN (Nat.le_of_lt hm) hb.1
      simp at hw
      simp -dsimp [go_sem, hN, hw2, hm]
      refine cnd (fun hg => ?_) (fun hg => ?_) <;> try simp at hg
      · simp -dsimp [go_sem, hN]
        rw [← hI]
        rcases hg with h1 | h1
        · simp [prevOf, hm, after, h1]
        · have h2 := (leS_iff _ _).1 h1
          simp [prevOf, hm, after, h2]
      · have h2 : sLt l[m] l[m + 1] = true := by
          rcases Bool.eq_false_or_eq_true (sLt l[m] l[m + 1]) with g | g
          · exact g
          · have := (leS_iff _ _).2 g
            grind
        simp -dsimp [go_sem, hN, hw]
        simp [hg, prevOf, hm, after, h2] at hI
        exact ⟨hc, by simpa [prevOf, hc] using hI, (Wk.mk (by simp [hh]) (by simp [go_sem]) (by simp [hu, hUnder_ext hu, go_sem]) (by simp [go_sem]))⟩
  · rw [List.drop_eq_nil_of_le (by omega), ascK] at hI
    simp -dsimp [go_sem, hN, ← hI]
theorem c_fp_Valid (f : Foot) : APure Tryz.prog 68 [.agg f.c] (Bo (footOk f.all f.reads f.writes)) := by
  refine apure_introB Tryz.func68 rfl (by kernel_rfl) (by simp [Tryz.ntmps68]) rfl ?_
  intro E h hN hh hu hb
  rw [Tryz.ntmps68] at hN
  refine awp_of_wpC _ _ _ ?_
  simp -dsimp [go_sem, hN, Foot.c]
  refine cnd (fun h0 => ?_) (fun h0 => ?_) <;> try simp at h0
  all_goals simp -dsimp [go_sem, hN, footOk, h0]
  refine tcall_pure (c_fp_ascending f.reads) ?_
  simp -dsimp [go_sem, hN]
  refine tgcall_pure (c_fp_ascending f.writes) (by simp) ?_
  simp -dsimp [go_sem, hN, footOk, h0]
theorem c_fp_meet (a b : List Bytes) (hs : ascS b) : APure Tryz.prog 69 [.slice (a.map sRow), .slice (b.map sRow)] (Bo (meetS a b)) := by
  refine apure_introB Tryz.func69 rfl (by kernel_rfl) (by simp [Tryz.ntmps69]) rfl ?_
  intro E h hN hh hu hb
  rw [Tryz.ntmps69] at hN
  refine awp_of_wpC _ _ _ ?_
  simp [go_sem] at hb
  simp -dsimp [go_sem, hN]
  refine awp_loopN a.length (fun n => ((a.drop n).any fun k => hasK b k) = meetS a b) (fun n => ⟨[(1, .slice (b.map sRow)), (9, .slice (a.map sRow)), (10, I a.length), (11, I n)], h⟩) (by simp [meetS]) (Wk.mk (by simp [hh]) (by simp [go_sem]) (by simp [hu, hUnder_ext hu, go_sem]) (by simp [go_sem])) ?_
  intro n hn hI
  have hw := wrapS hn (show _ ≤ 68719476736 by omega)
  simp -dsimp [go_sem, hN]
  refine cnd (fun hc => ?_) (fun hc => ?_) <;> simp at hc
  · rw [drop_next hc, List.any_cons] at hI
    have hbs := c_BinarySearch b a[n] hs
    rw [posS_has hs] at hbs
    simp -dsimp [go_sem, hN, hc]
    refine tcall_pure hbs ?_
    simp -dsimp [go_sem, hN]
    refine cnd (fun h1 => ?_) (fun h1 => ?_) <;> try simp at h1
    · simp -dsimp [go_sem, hN]
      rw [← hI, h1]
      simp
    · simp -dsimp [go_sem, hN, hw]
      exact ⟨hc, by simpa [h1] using hI, (Wk.mk (by simp [hh]) (by simp [go_sem]) (by simp [hu, hUnder_ext hu, go_sem]) (by simp [go_sem]))⟩
  · rw [List.drop_eq_nil_of_le (by omega), List.any_nil] at hI
    simp -dsimp [go_sem, hN, ← hI]
theorem foot_asc {f : Foot} (h : footOk f.all f.reads f.writes = true) (ha : f.all = false) : ascS f.reads ∧ ascS f.writes := by
  unfold footOk at h
  rw [ha] at h
  simp only [Bool.false_eq_true, if_false, Bool.and_eq_true] at h
  exact ⟨((ascK_iff _ _).1 h.1.1).2.1, ((ascK_iff _ _).1 h.2.1).2.1⟩
theorem c_fp_Conflicts (a b : Foot) : APure Tryz.prog 27 [.agg a.c, .agg b.c] (Bo (conflS a b)) := by
  refine apure_introB Tryz.func27 rfl (by kernel_rfl) (by simp [Tryz.ntmps27]) rfl ?_
  intro E h hN hh hu hb
  rw [Tryz.ntmps27] at hN
  refine awp_of_wpC _ _ _ ?_
  simp -dsimp [go_sem, hN, Foot.c]
  refine tcall_pure (c_fp_Valid a) ?_
  simp -dsimp [go_sem, hN]
  refine tgcall_pure (c_fp_Valid b) (by simp) ?_
  simp -dsimp [go_sem, hN]
  refine cnd (fun h0 => ?_) (fun h0 => ?_) <;> simp at h0
  · simp -dsimp [go_sem, hN]
    unfold conflS
    rw [if_pos (by grind)]
  have hC : conflS a b = (meetS a.writes b.writes || (meetS a.writes b.reads || meetS a.reads b.writes)) := by
    unfold conflS
    rw [if_neg (by grind)]
  have hB := foot_asc (f := b) (by grind) (by grind)
  simp -dsimp [go_sem, hN]
  refine tcall_pure (c_fp_meet a.writes b.writes hB.2) ?_
  simp -dsimp [go_sem, hN]
  refine tgcall_pure (c_fp_meet a.writes b.reads hB.1) (by simp) ?_
  simp -dsimp [go_sem, hN]
  refine tgcall_pure (c_fp_meet a.reads b.writes hB.2) (by simp) ?_
  simp -dsimp [go_sem, hN, hC]
  grind
end Go.Proofs.YtcmbmfmpelnimaaGreatDoor

set_option maxRecDepth 8000
set_option maxHeartbeats 2000000
namespace Go.Proofs.YtcmbmfmpelnimaaGreatDoor
open Go Go.Abs Go.Cw
section
variable {tT : TypeId} {tx : Nat × Nat} {g : Nat}
theorem c_law27_OccStands (procs : List Proc) (s : List Pr) (l : List Txn) (h : AHeap) (hg : h[g]? = some (tabO tT tx)) (hB : BatchIn fmtI procs l) (hs : rngL s) (hL : s.length + 64 * l.length ≤ 60000000000) :
    ACalls Tryz.prog 8 [.agg (batC procs s l)] h fun r h' => r = .ret (Bo true) ∧ h' = h := by
  refine acalls_introB Tryz.func8 rfl (by kernel_rfl) (by simp [Tryz.ntmps8]) ?_
  intro E hN hh hu hb hb' hua
  rw [Tryz.ntmps8] at hN
  refine awp_of_wpC _ _ _ ?_
  have hgl : g < h.length := (List.getElem?_eq_some_iff.1 hg).1
  have hg' : ∀ l : AHeap, (h ++ l)[g]? = some (tabO tT tx) := fun l => by rw [List.getElem?_append_left hgl]; exact hg
  have hocc := fun H hH => c_occ_Round (g := g) (tT := tT) (tx := tx) procs s l H hH hB hs hL
  have hspec := fun H hH => c_occ_Speculate (g := g) (tT := tT) (tx := tx) procs s l H hH hB hs (by omega)
  obtain ⟨hEl, hMl⟩ := occ_len (fmt := fmtI) (procs := procs) (s := s) l
  have hSl := specS_len (fmt := fmtI) (procs := procs) (s := s) l
  have hnth := fun i hi => occ_nth (fmt := fmtI) (procs := procs) hs l hB i hi
  have hagn := fun i hi => occ_again (fmt := fmtI) (procs := procs) (s := s) hs hB (i := i) hi
  have hSn : ∀ i (hi : i < l.length), (specS fmtI procs s l)[i]? = some (oneS fmtI procs s l[i]).2 := fun i hi => by simp [specS, hi]
  obtain ⟨S0, hS0⟩ : ∃ S0, (occS fmtI procs s l).1 = S0 := ⟨_, rfl⟩
  obtain ⟨Es, hEs⟩ : ∃ Es, (occS fmtI procs s l).2.1 = Es := ⟨_, rfl⟩
  obtain ⟨M, hM⟩ : ∃ M, (occS fmtI procs s l).2.2 = M := ⟨_, rfl⟩
  obtain ⟨SP, hSP⟩ : ∃ SP, specS fmtI procs s l = SP := ⟨_, rfl⟩
  simp only [hS0, hEs, hM] at hocc
  simp only [hSP] at hspec hSn hSl
  simp only [hEs, hM] at hnth hEl hMl
  simp [go_sem, batC] at hb
  simp -dsimp [go_sem, hN, batC]
  refine tcall (hocc _ (hg' _)) ?_
  rintro r h' ⟨rfl, rfl⟩
  simp -dsimp [go_sem, hN]
  refine tcall (hspec _ (hg' _)) ?_
  rintro r h' ⟨rfl, rfl⟩
  simp -dsimp [go_sem, hN, hEl, hMl, hSl]
  refine awp_loopN l.length (fun n => True) (fun n => ⟨[(1, P0 h.length), (4, .slice (Es.map Eff.c)), (5, .slice (M.map bRow)), (6, .slice (SP.map Eff.c)), (7, I n)], h ++ [.cells [.slice (procs.map Proc.c), .slice (s.map Pr.c), .slice (l.map Txn.c)]]⟩) trivial (Wk.mk (by simp [hh]) (by simp [go_sem]) (by simp [hu, hUnder_ext hu, go_sem]) (by simp [go_sem])) ?_
  intro n hn _
  have hw := wrapS hn (show _ ≤ 68719476736 by omega)
  simp -dsimp [go_sem, hN, hEl]
  refine cnd (fun hc => ?_) (fun hc => ?_) <;> simp at hc
  · have hnM : n < M.length := by omega
    have hnE : n < Es.length := by omega
    have hnS : n < SP.length := by omega
    obtain ⟨a1, a2⟩ := hnth n hc
    have a3 := hagn n hc
    have hSPn : SP[n] = (oneS fmtI procs s l[n]).2 := by have := hSn n hc; rw [List.getElem?_eq_getElem hnS] at this; exact Option.some.inj this
    obtain ⟨v, hv⟩ : ∃ v, validO (oneS fmtI procs s l[n]).2 (roundS fmtI procs s (l.take n)).2 = v := ⟨_, rfl⟩
    rw [hv] at a1 a2 a3
    have hMn : M[n] = !v := by rw [List.getElem?_eq_getElem hnM] at a1; exact Option.some.inj a1
    obtain ⟨e0, he0⟩ : ∃ e, (oneS fmtI procs s l[n]).2 = e := ⟨_, rfl⟩
    rw [he0] at a2 a3 hSPn
    simp -dsimp [go_sem, hN, hnM, hMn, bRow]
    refine cnd (fun h1 => ?_) (fun h1 => ?_) <;> try simp at h1
    · have hEn : Es[n] = e0 := by have := a2 h1; rw [List.getElem?_eq_getElem hnE] at this; exact Option.some.inj this
      simp -dsimp [go_sem, hN, hnE, hnS]
      refine awp_drawQ 8 mixed (by kernel_rfl) (by kernel_rfl) ?_
      simp -dsimp [go_sem, hN, hnE, hnS, hEn, hSPn, Eff.c]
      have hsm := c_ref15_Same e0 e0
      rw [sameE_refl] at hsm
      refine tcall_pure hsm ?_
      simp -dsimp [go_sem, hN, hw]
      exact ⟨hc, (Wk.mk (by simp [hh]) (by simp [go_sem]) (by simp [hu, hUnder_ext hu, go_sem]) (by simp [go_sem]))⟩
    · obtain ⟨b1, b2, m0, hm0, b3⟩ := a3 h1
      simp -dsimp [go_sem, hN]
      refine awp_loopN n (fun m => True) (fun m => ⟨[(1, P0 h.length), (4, .slice (Es.map Eff.c)), (5, .slice (M.map bRow)), (6, .slice (SP.map Eff.c)), (7, I n), (8, Bo ((l.take m).any fun t => conflS t.ft l[n].ft)), (9, I m)], h ++ [.cells [.slice (procs.map Proc.c), .slice (s.map Pr.c), .slice (l.map Txn.c)]]⟩) trivial (Wk.mk (by simp [hh]) (by simp [go_sem]) (by simp [hu, hUnder_ext hu, go_sem]) (by simp [go_sem])) ?_
      intro m hm _
      have hwm := wrapS hm (show n ≤ 68719476736 by omega)
      obtain ⟨cf, hcf⟩ : ∃ cf, (l.take m).any (fun t => conflS t.ft l[n].ft) = cf := ⟨_, rfl⟩
      simp only [hcf]
      simp -dsimp [go_sem, hN]
      refine cnd (fun hd => ?_) (fun hd => ?_) <;> simp at hd
      · have hml : m < l.length := by omega
        have hnx : (l.take (m + 1)).any (fun t => conflS t.ft l[n].ft) = (cf || conflS l[m].ft l[n].ft) := by
          rw [List.take_succ_eq_append_getElem hml, List.any_append, hcf]
          simp
        simp -dsimp [go_sem, hN, hml, hc, batC, Txn.c]
        refine awp_drawQ 14 mixed (by kernel_rfl) (by kernel_rfl) ?_
        simp -dsimp [go_sem, hN, hml, hc, batC, Txn.c]
        refine tgcall_pure (c_fp_Conflicts l[m].ft l[n].ft) (by simp) ?_
        simp -dsimp [go_sem, hN, hwm]
        rw [hnx]
        exact ⟨hd, (Wk.mk (by simp [hh]) (by simp [go_sem]) (by simp [hu, hUnder_ext hu, go_sem]) (by simp [go_sem]))⟩
      · have hmn : m = n := by omega
        subst hmn
        have hany : cf = true := by
          rw [← hcf]
          refine List.any_eq_true.2 ⟨l[m0], ?_, b3⟩
          rw [List.mem_take_iff_getElem]
          exact ⟨m0, by omega, rfl⟩
        subst hany
        have hrl : ¬ (e0.reads.length : Int) = 0 := by
          intro g
          exact b2 (List.eq_nil_of_length_eq_zero (by omega))
        simp -dsimp [go_sem, hN, hnS, hSPn, Eff.c]
        refine cnd (fun h2 => ?_) (fun h2 => ?_) <;> simp at h2
        · exact absurd h2 (by rintro (g | g) <;> first | exact b1 (by omega) | exact b2 g | exact hrl (by omega))
        · simp -dsimp [go_sem, hN, hw]
          exact ⟨hc, (Wk.mk (by simp [hh]) (by simp [go_sem]) (by simp [hu, hUnder_ext hu, go_sem]) (by simp [go_sem]))⟩
  · simp -dsimp [go_sem, hN]
    refine tcall (c_law27_examples _ (hg' _)) ?_
    rintro r h' ⟨rfl, rfl⟩
    simp -dsimp [go_sem, hN]
    exact ⟨_, .refl _, h, by simp [go_sem], hwk.app0 _, Nat.le_refl _, hu, rfl, rfl⟩
end
end Go.Proofs.YtcmbmfmpelnimaaGreatDoor
