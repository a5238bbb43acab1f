/- Part 24 of a proof: W33, W34, W35, OP, LB, OR -/
import Derived.Shelf.Small.Strs
import Derived.Shelf.Strconv.Itoa4
import Derived.Lib.ItoaLen
import Derived.Test.YtgcdpfpffalalaaGreatDoorRows
import Derived.KernelRfl
import Derived.Test.YtgcdpfpffalalaaGreatDoorCards
import Derived.Test.YtgcdpfpffalalaaGreatDoorTie
import Derived.ProofKit
import Derived.OpenShut
import Derived.Carry
import Derived.Deep.DeepHandedRow
import Derived.Lib.LaidTab
import Derived.Stop.LaidErr
import Derived.Test.YtgcdpfpffalalaaGreatDoorQ09
import Derived.Test.YtgcdpfpffalalaaGreatDoorQ10
import Derived.Test.YtgcdpfpffalalaaGreatDoorQ12
import Derived.Test.YtgcdpfpffalalaaGreatDoorQ13
import Derived.Test.YtgcdpfpffalalaaGreatDoorQ14
import Derived.Test.YtgcdpfpffalalaaGreatDoorQ15
import Derived.Test.YtgcdpfpffalalaaGreatDoorQ17
import Derived.Test.YtgcdpfpffalalaaGreatDoorQ18
import Derived.Test.YtgcdpfpffalalaaGreatDoorQ21
import Derived.Test.YtgcdpfpffalalaaGreatDoorQ23
set_option linter.all false

set_option linter.unusedSimpArgs false
set_option linter.unusedVariables false
set_option maxRecDepth 8000
set_option maxHeartbeats 2000000
namespace Go.Proofs.YtgcdpfpffalalaaGreatDoor
open Go Go.Abs Go.Cw

variable {tT : TypeId} {tx : Nat × Nat} {g : Nat}
theorem run_len {p : Proc} {args : List V} {st : List Pr} (ft : Foot) (hI : RunIn fmtI p args st) : (runS fmtI p args st ft).reads.length ≤ 64 ∧ (runS fmtI p args st ft).puts.length ≤ 64 := by
  by_cases hc : costErr p = 0
  · have h1 := run_bounds (ft := ft) hI hc
    have h2 := cost_lim hc
    omega
  · rw [run_wrong hc]
    simp [wrongE]
/-- a run as an argument: the procedure, the arguments, the footprint -/
def runC (p : Proc) (args : List V) (ft : Foot) : List AV := [S p.name, .slice (p.params.map Param.c), .slice (p.body.map St.c), .slice (args.map V.c), Bo ft.all, .slice (ft.reads.map sRow), .slice (ft.writes.map sRow)]
attribute [local go_sem] runC
theorem rng_apply {l w : List Pr} (hl : ∀ q ∈ l, rngV q.v) (hw : ∀ q ∈ w, rngV q.v) (al : stateOk l = true) (aw : writesOk w = true) : ∀ q ∈ applyP l w, rngV q.v := fun q hq => by
  rcases ((applyP_spec ((stateOk_iff l).1 al).2.2 ((writesOk_iff w).1 aw).2.2).2 q).1 hq with h | h
  · exact hl q h.1
  · exact hw q h.1
theorem c_law15_InterpLocal (p : Proc) (args : List V) (ft : Foot) (a b : List Pr) (h : AHeap) (hg : h[g]? = some (tabO tT tx)) (hI : RunIn fmtI p args a) (hb2 : ∀ q ∈ b, rngV q.v) (hbl : b.length ≤ 1048576) :
    ACalls Tryz.prog 3 [.agg (runC p args ft), .slice (a.map Pr.c), .slice (b.map Pr.c)] h fun r h' => r = .ret (Bo true) ∧ h' = h := by
  refine acalls_introB Tryz.func3 rfl (by kernel_rfl) (by simp [Tryz.ntmps3]) ?_
  intro E hN hh hu hb hb' hua
  rw [Tryz.ntmps3] at hN
  refine awp_of_wpC _ _ _ ?_
  have hgl : g < h.length := (List.getElem?_eq_some_iff.1 hg).1
  have hg' : ∀ l : AHeap, (h ++ l)[g]? = some (tabO tT tx) := fun l => by rw [List.getElem?_append_left hgl]; exact hg
  simp [go_sem] at hb
  obtain ⟨E1, hE1⟩ : ∃ E1, runS fmtI p args a ft = E1 := ⟨_, rfl⟩
  have hlen := (run_len ft hI).1
  have hcode := run_code (fmt := fmtI) (p := p) (args := args) (st := a) (ft := ft)
  have hrun := fun H hH => c_interp_Run (g := g) (tT := tT) (tx := tx) p args a ft H hH hI
  have hloc := fun ha hb' => run_local (fmt := fmtI) (p := p) (args := args) (st := a) (ft := ft) (b := b) ha hb'
  rw [hE1] at hlen hcode
  simp only [hE1] at hrun hloc
  rcases ha : stateOk a with _ | _
  · have hc := hcode ha
    simp -dsimp [go_sem, hN]
    refine tcall (hrun _ (hg' _)) ?_
    rintro r h' ⟨rfl, rfl⟩
    simp -dsimp [go_sem, hN]
    refine tcall_pure (c_ref06_Valid a) ?_
    simp -dsimp [go_sem, hN, ha]
    refine tgcall_pure (c_ref06_Valid b) (by simp) ?_
    simp -dsimp [go_sem, hN, ha]
    refine tcall_pure (c_ref06_Valid a) ?_
    simp -dsimp [go_sem, hN, ha, hc]
    refine tgcall_true (by simp) ((c_law15_examples _ (hg' _)).mono ?_)
    rintro r h' ⟨rfl, rfl⟩
    simp -dsimp [go_sem, hN]
    exact ⟨_, .refl _, h, by simp [go_sem], hwk.app0 _, Nat.le_refl _, hu, rfl, rfl⟩
  rcases hbv : stateOk b with _ | _
  · simp -dsimp [go_sem, hN]
    refine tcall (hrun _ (hg' _)) ?_
    rintro r h' ⟨rfl, rfl⟩
    simp -dsimp [go_sem, hN]
    refine tcall_pure (c_ref06_Valid a) ?_
    simp -dsimp [go_sem, hN, ha]
    refine tgcall_pure (c_ref06_Valid b) (by simp) ?_
    simp -dsimp [go_sem, hN, ha, hbv]
    refine tcall_pure (c_ref06_Valid a) ?_
    simp -dsimp [go_sem, hN, ha]
    refine tgcall_true (by simp) ((c_law15_examples _ (hg' _)).mono ?_)
    rintro r h' ⟨rfl, rfl⟩
    simp -dsimp [go_sem, hN]
    exact ⟨_, .refl _, h, by simp [go_sem], hwk.app0 _, Nat.le_refl _, hu, rfl, rfl⟩
  obtain ⟨hw, hsame⟩ := hloc ha hbv
  obtain ⟨W, hW⟩ : ∃ W, E1.reads.map (fun k => (⟨k, getP a k⟩ : Pr)) = W := ⟨_, rfl⟩
  rw [hW] at hw hsame
  have hWl : W.length = E1.reads.length := by rw [← hW]; simp
  have hWr : ∀ q ∈ W, rngV q.v := fun q hq => by
    rw [← hW] at hq
    obtain ⟨k, _, rfl⟩ := List.mem_map.1 hq
    exact rng_getP hI.st k
  have hap : APure Tryz.prog 13 [.slice (b.map Pr.c), .slice (W.map Pr.c)] (.tuple [.slice ((applyP b W).map Pr.c), I 0]) := by
    have := c_ref06_Apply b W (by omega)
    rw [hbv, hw] at this
    simpa using this
  have hrun2 : ∀ H, H[g]? = some (tabO tT tx) → ACalls Tryz.prog 9 [.agg p.c, .slice (args.map V.c), .slice ((applyP b W).map Pr.c), .agg ft.c] H fun e h' => e = .ret (.agg E1.c) ∧ h' = H := fun H hH => by
    have := c_interp_Run (g := g) (tT := tT) (tx := tx) p args (applyP b W) ft H hH ⟨hI.fmt, hI.body, hI.args, rng_apply hb2 hWr hbv hw⟩
    rwa [hsame] at this
  have hsm := c_ref15_Same E1 E1
  rw [sameE_refl] at hsm
  simp -dsimp [go_sem, hN]
  refine tcall (hrun _ (hg' _)) ?_
  rintro r h' ⟨rfl, rfl⟩
  simp -dsimp [go_sem, hN]
  refine tcall_pure (c_ref06_Valid a) ?_
  simp -dsimp [go_sem, hN, ha]
  refine tgcall_pure (c_ref06_Valid b) (by simp) ?_
  simp -dsimp [go_sem, hN, ha, hbv]
  refine awp_loopN E1.reads.length (fun n => True) (fun n => ⟨[(1, .slice (a.map Pr.c)), (2, .slice (b.map Pr.c)), (3, .ptr h.length 0), (7, .ptr (h.length + 1) 0), (8, .own (h.length + 2) n), (9, I n)], h ++ [.cells (runC p args ft), .cells E1.c, .arr 44 4 ((W.take n).map Pr.c)]⟩) trivial ((nil_wk E _ 8 44 4 (by simp [lookT])).trans ?_) ?_
  · simp
    exact (Wk.mk (by simp [hh]) (by simp [go_sem]) (by simp [hu, hUnder_ext hu, go_sem]) (by simp [go_sem]))
  intro n hn _
  have hw' := wrapS hn (show _ ≤ 68719476736 by omega)
  simp -dsimp [go_sem, hN]
  refine cnd (fun hc => ?_) (fun hc => ?_) <;> simp at hc
  · refine awp_drawQ 15 mixed (by kernel_rfl) (by kernel_rfl) ?_
    simp -dsimp [go_sem, hN, hc]
    refine tdcall (c_ref06_Get a E1.reads[n]) (by simp) ?_
    simp -dsimp [go_sem, hN, hc, hw']
    have et : List.take (n + 1) (W.map Pr.c) = List.take n (W.map Pr.c) ++ [[S E1.reads[n], I (getP a E1.reads[n]).k, I (getP a E1.reads[n]).n, S (getP a E1.reads[n]).s]] := by
      rw [List.take_succ_eq_append_getElem (by simp; omega)]
      simp [← hW, Pr.c]
    rw [et]
    exact ⟨by omega, by omega, (Wk.mk (by simp [hh]) (by simp [go_sem]) (by simp [hu, hUnder_ext hu, go_sem]) (by simp [go_sem]))⟩
  · have hnq : n = E1.reads.length := by omega
    subst hnq
    have e1 : List.take E1.reads.length (W.map Pr.c) = W.map Pr.c := List.take_of_length_le (by simp; omega)
    simp -dsimp [go_sem, hN, e1, hWl]
    refine tcall_pure hap ?_
    simp -dsimp [go_sem, hN]
    refine awp_drawQ 9 mixed (by kernel_rfl) (by kernel_rfl) ?_
    simp -dsimp [go_sem, hN]
    refine tdcall_at (fun _ => at_tab hrun2 (hg' _)) (by simp) ?_
    simp -dsimp [go_sem, hN]
    refine tcall_pure hsm ?_
    simp -dsimp [go_sem, hN]
    refine tgcall_true (by simp) ((c_law15_examples _ (hg' _)).mono ?_)
    rintro r h' ⟨rfl, rfl⟩
    simp -dsimp [go_sem, hN]
    exact ⟨_, .refl _, h, by simp [go_sem], hwk.app0 _, Nat.le_refl _, hu, rfl, rfl⟩
end Go.Proofs.YtgcdpfpffalalaaGreatDoor

set_option linter.unusedSimpArgs false
set_option linter.unusedVariables false
set_option maxRecDepth 8000
set_option maxHeartbeats 2000000
namespace Go.Proofs.YtgcdpfpffalalaaGreatDoor
open Go Go.Abs Go.Cw

theorem c_ref15_ascending (l : List Bytes) : APure Tryz.prog 51 [.slice (l.map sRow)] (Bo (ascK none l && decide ((l.length : Int) ≤ 64))) := by
  refine apure_introB Tryz.func51 rfl (by kernel_rfl) (by simp [Tryz.ntmps51]) rfl ?_
  intro E h hN hh hu hb
  rw [Tryz.ntmps51] at hN
  refine awp_of_wpC _ _ _ ?_
  simp [go_sem] at hb
  simp -dsimp [go_sem, hN]
  refine awp_loopN l.length (fun n => ascK (prevOf l n) (l.drop n) = ascK none l) (fun n => ⟨[(0, .slice (l.map sRow)), (3, I n)], h⟩) (by simp [prevOf]) (Wk.mk (by simp [hh]) (by simp [go_sem]) (by simp [hu, hUnder_ext hu, go_sem]) (by simp [go_sem])) ?_
  intro n hn hI
  have hw := wrapS hn hb.1
  simp -dsimp [go_sem, hN]
  refine cnd (fun hc => ?_) (fun hc => ?_) <;> simp at hc
  · rw [drop_next hc, ascK] at hI
    simp -dsimp [go_sem, hN, hc]
    refine awp_drawQ 19 mixed (by kernel_rfl) (by kernel_rfl) ?_
    simp -dsimp [go_sem, hN, hc]
    refine tdcall (c_ref04_Valid _) (by simp) ?_
    cases n with
    | zero =>
      simp -dsimp [go_sem, hN]
      refine cnd (fun hg => ?_) (fun hg => ?_) <;> try simp at hg
      · simp -dsimp [go_sem, hN]
        grind [prevOf, after]
      · simp -dsimp [go_sem, hN, hw]
        exact ⟨hc, by simpa [hg, prevOf, hc, after] using hI, (Wk.mk (by simp [hh]) (by simp [go_sem]) (by simp [hu, hUnder_ext hu, go_sem]) (by simp [go_sem]))⟩
    | succ m =>
      have hm : m < l.length := by omega
      have hw2 := wrapN (Nat.le_of_lt hm) hb.1
      simp at hw
      simp -dsimp [go_sem, hN, hw2, hm, hc]
      refine ⟨fun hk => ⟨hk, by omega⟩, cnd (fun hg => ?_) (fun hg => ?_)⟩ <;> rw [sLe_not] at hg <;> simp at hg
      · simp -dsimp [go_sem, hN]
        rw [← hI]
        rcases hg with h1 | h1 <;> simp [prevOf, hm, after, h1]
      · simp -dsimp [go_sem, hN, hw]
        simp [hg, prevOf, hm, after] at hI
        exact ⟨hc, by simpa [prevOf, hc] using hI, (Wk.mk (by simp [hh]) (by simp [go_sem]) (by simp [hu, hUnder_ext hu, go_sem]) (by simp [go_sem]))⟩
  · rw [List.drop_eq_nil_of_le (by omega), ascK] at hI
    simp -dsimp [go_sem, hN, ← hI]
theorem c_ref15_ValidFoot (f : Foot) : APure Tryz.prog 19 [.agg f.c] (Bo (footOk f.all f.reads f.writes)) := by
  refine apure_introB Tryz.func19 rfl (by kernel_rfl) (by simp [Tryz.ntmps19]) rfl ?_
  intro E h hN hh hu hb
  rw [Tryz.ntmps19] at hN
  refine awp_of_wpC _ _ _ ?_
  simp -dsimp [go_sem, hN]
  refine cnd (fun h0 => ?_) (fun h0 => ?_) <;> try simp at h0
  all_goals simp -dsimp [go_sem, hN, footOk, h0]
  refine tcall_pure (c_ref15_ascending f.reads) ?_
  simp -dsimp [go_sem, hN]
  refine tgcall_pure (c_ref15_ascending f.writes) (by simp) ?_
  simp -dsimp [go_sem, hN, footOk, h0]

variable {tT : TypeId} {tx : Nat × Nat} {g : Nat}
attribute [local go_sem] runC
theorem asc_step {l : List Bytes} (h : ascS l) {m : Nat} (hm : m + 1 < l.length) : sLt l[m] l[m + 1] = true := List.pairwise_iff_getElem.1 h m (m + 1) (by omega) hm (by omega)
theorem c_law15_InterpFootprints (p : Proc) (args : List V) (ft : Foot) (st : List Pr) (h : AHeap) (hg : h[g]? = some (tabO tT tx)) (hI : RunIn fmtI p args st) :
    ACalls Tryz.prog 5 [.agg (runC p args ft), .slice (st.map Pr.c)] h fun r h' => r = .ret (Bo true) ∧ h' = h := by
  refine acalls_introB Tryz.func5 rfl (by kernel_rfl) (by simp [Tryz.ntmps5]) ?_
  intro E hN hh hu hb hb' hua
  rw [Tryz.ntmps5] at hN
  refine awp_of_wpC _ _ _ ?_
  have hgl : g < h.length := (List.getElem?_eq_some_iff.1 hg).1
  have hg' : ∀ l : AHeap, (h ++ l)[g]? = some (tabO tT tx) := fun l => by rw [List.getElem?_append_left hgl]; exact hg
  simp [go_sem] at hb
  obtain ⟨E1, hE1⟩ : ∃ E1, runS fmtI p args st ft = E1 := ⟨_, rfl⟩
  obtain ⟨E2, hE2⟩ : ∃ E2, runS fmtI p args st ⟨true, [], []⟩ = E2 := ⟨_, rfl⟩
  have hrun := fun H hH => c_interp_Run (g := g) (tT := tT) (tx := tx) p args st ft H hH hI
  have hfree := fun H hH => c_interp_Free (g := g) (tT := tT) (tx := tx) p args st H hH hI
  have f0 := run_len ft hI
  have f1 := run_all (fmt := fmtI) (p := p) (args := args) (st := st) (ft := ⟨true, [], []⟩) rfl
  have f2 := fun k => run_reads (fmt := fmtI) (p := p) (args := args) (st := st) (ft := ft) (k := k)
  have f3 := run_all (fmt := fmtI) (p := p) (args := args) (st := st) (ft := ft)
  have f5 := fun k => run_puts (fmt := fmtI) (p := p) (args := args) (st := st) (ft := ft) (k := k)
  have f6 := run_asc (fmt := fmtI) (p := p) (args := args) (st := st) (ft := ft)
  have f7 := run_restart (fmt := fmtI) (p := p) (args := args) (st := st) (ft := ft)
  have f8 := run_miss (fmt := fmtI) (p := p) (args := args) (st := st) (ft := ft)
  have f9 := run_free (fmt := fmtI) (p := p) (args := args) (st := st) (ft := ft)
  simp only [hE1, hE2] at hrun hfree f0 f1 f2 f3 f5 f6 f7 f8 f9
  have hsv : E1.reads.length ≠ 0 → stateOk st = true := fun hl => by
    have hm : E1.reads[0]'(by omega) ∈ E1.reads := List.getElem_mem _
    exact (f2 _ hm).1
  simp -dsimp [go_sem, hN]
  refine awp_drawQ 16 mixed (by kernel_rfl) (by kernel_rfl) ?_
  simp -dsimp [go_sem, hN]
  refine tdcall_at (fun _ => at_tab hrun (hg' _)) (by simp) ?_
  simp -dsimp [go_sem, hN]
  refine tdcall_at (fun _ => at_tab hfree (hg' _)) (by simp) ?_
  simp -dsimp [go_sem, hN]
  refine tgcall_pure (c_ref06_Valid st) (by simp) ?_
  simp -dsimp [go_sem, hN]
  refine ⟨by grind, ?_⟩
  refine cnd (fun h0 => ?_) (fun h0 => ?_)
  · exfalso
    simp at h0
    rcases h0 with h0 | ⟨h0, h1⟩
    · exact f1 h0
    · have := hsv (by omega)
      rw [this] at h1; cases h1
  simp -dsimp [go_sem, hN]
  refine cnd (fun ha => ?_) (fun ha => ?_) <;> try simp at ha
  · have h3 := f3 ha
    simp -dsimp [go_sem, hN, h3]
    refine tgcall_true (by simp) ((c_law15_examples _ (hg' _)).mono ?_)
    rintro r h' ⟨rfl, rfl⟩
    simp -dsimp [go_sem, hN]
    exact ⟨_, .refl _, h, by simp [go_sem], hwk.app0 _, Nat.le_refl _, hu, rfl, rfl⟩
  simp -dsimp [go_sem, hN]
  refine awp_loopN E1.reads.length (fun n => True) (fun n => ⟨[(2, .ptr h.length 0), (5, .ptr (h.length + 1) 0), (6, .ptr (h.length + 2) 0), (7, I n)], h ++ [.cells (runC p args ft), .cells E1.c, .cells E2.c]⟩) trivial (Wk.mk (by simp [hh]) (by simp [go_sem]) (by simp [hu, hUnder_ext hu, go_sem]) (by simp [go_sem])) ?_
  intro n hn _
  have hw := wrapS hn (show _ ≤ 68719476736 by omega)
  simp -dsimp [go_sem, hN]
  refine cnd (fun hc => ?_) (fun hc => ?_) <;> simp at hc
  · have hk : hasK ft.reads E1.reads[n] = true := by
      rcases (f2 _ (List.getElem_mem hc)).2.2 with hk | hk
      · rw [hk] at ha; cases ha
      · exact hk
    simp -dsimp [go_sem, hN, hc]
    refine awp_drawQ 25 mixed (by kernel_rfl) (by kernel_rfl) ?_
    simp -dsimp [go_sem, hN, hc]
    refine tdcall (c_ref15_Has _ _) (by simp) ?_
    cases n with
    | zero =>
      simp -dsimp [go_sem, hN, hk, hw]
      exact ⟨by omega, (Wk.mk (by simp [hh]) (by simp [go_sem]) (by simp [hu, hUnder_ext hu, go_sem]) (by simp [go_sem]))⟩
    | succ m =>
      have hm : m < E1.reads.length := by omega
      have hw2 := wrapN (Nat.le_of_lt hm) (show _ ≤ 68719476736 by omega)
      have hs := asc_step f6.1 hc
      simp at hw
      simp -dsimp [go_sem, hN, hk, hw, hw2, hm, hc]
      refine ⟨by omega, cnd (fun hg => ?_) (fun hg => ?_)⟩ <;> rw [sLe_not] at hg
      · rw [hs] at hg; simp at hg
      simp -dsimp [go_sem, hN, hw]
      exact ⟨by omega, (Wk.mk (by simp [hh]) (by simp [go_sem]) (by simp [hu, hUnder_ext hu, go_sem]) (by simp [go_sem]))⟩
  simp -dsimp [go_sem, hN]
  refine awp_loopN E1.puts.length (fun n => True) (fun n => ⟨[(2, .ptr h.length 0), (5, .ptr (h.length + 1) 0), (6, .ptr (h.length + 2) 0), (8, I n)], h ++ [.cells (runC p args ft), .cells E1.c, .cells E2.c]⟩) trivial (Wk.mk (by simp [hh]) (by simp [go_sem]) (by simp [hu, hUnder_ext hu, go_sem]) (by simp [go_sem])) ?_
  clear hc hw hn n
  intro n hn _
  have hw := wrapS hn (show _ ≤ 68719476736 by omega)
  simp -dsimp [go_sem, hN]
  refine cnd (fun hc => ?_) (fun hc => ?_) <;> simp at hc
  · have hk : hasK ft.writes E1.puts[n] = true := by
      rcases (f5 _ (List.getElem_mem hc)).2 with hk | hk
      · rw [hk] at ha; cases ha
      · exact hk
    simp -dsimp [go_sem, hN, hc]
    refine awp_drawQ 25 mixed (by kernel_rfl) (by kernel_rfl) ?_
    simp -dsimp [go_sem, hN, hc]
    refine tdcall (c_ref15_Has _ _) (by simp) ?_
    cases n with
    | zero =>
      simp -dsimp [go_sem, hN, hk, hw]
      exact ⟨by omega, (Wk.mk (by simp [hh]) (by simp [go_sem]) (by simp [hu, hUnder_ext hu, go_sem]) (by simp [go_sem]))⟩
    | succ m =>
      have hm : m < E1.puts.length := by omega
      have hw2 := wrapN (Nat.le_of_lt hm) (show _ ≤ 68719476736 by omega)
      have hs := asc_step f6.2 hc
      simp at hw
      simp -dsimp [go_sem, hN, hk, hw, hw2, hm, hc]
      refine ⟨by omega, cnd (fun hg => ?_) (fun hg => ?_)⟩ <;> rw [sLe_not] at hg
      · rw [hs] at hg; simp at hg
      simp -dsimp [go_sem, hN, hw]
      exact ⟨by omega, (Wk.mk (by simp [hh]) (by simp [go_sem]) (by simp [hu, hUnder_ext hu, go_sem]) (by simp [go_sem]))⟩
  simp -dsimp [go_sem, hN]
  refine cnd (fun hs => ?_) (fun hs => ?_) <;> simp at hs
  · have h7 := f7 hs
    have hn : ¬ E1.miss = em := h7.1
    have h72 : (hasK ft.reads E1.miss && hasK ft.writes E1.miss) = false := by
      have := h7.2.1
      cases ha : hasK ft.reads E1.miss <;> cases hb : hasK ft.writes E1.miss <;> simp_all
    simp -dsimp [go_sem, hN, hn]
    refine tgcall_pure (c_ref15_Has _ _) (by simp) ?_
    simp -dsimp [go_sem, hN]
    refine tgcall_pure (c_ref15_Has _ _) (by simp) ?_
    simp -dsimp [go_sem, hN, h72]
    refine tgcall_true (by simp) ((c_law15_examples _ (hg' _)).mono ?_)
    rintro r h' ⟨rfl, rfl⟩
    simp -dsimp [go_sem, hN]
    exact ⟨_, .refl _, h, by simp [go_sem], hwk.app0 _, Nat.le_refl _, hu, rfl, rfl⟩
  have h8 := f8 hs
  have hok : (!footOk ft.all ft.reads ft.writes || sameE E1 E2) = true := by
    cases hf : footOk ft.all ft.reads ft.writes
    · rfl
    · rw [f9 hf hs, sameE_refl]; rfl
  simp -dsimp [go_sem, hN]
  refine tcall_pure (c_ref15_ValidFoot ft) ?_
  simp -dsimp [go_sem, hN]
  refine tgcall_pure (c_ref15_Same E1 E2) (by simp) ?_
  simp -dsimp [go_sem, hN, h8, hok]
  refine tgcall_true (by simp) ((c_law15_examples _ (hg' _)).mono ?_)
  rintro r h' ⟨rfl, rfl⟩
  simp -dsimp [go_sem, hN]
  exact ⟨_, .refl _, h, by simp [go_sem], hwk.app0 _, Nat.le_refl _, hu, rfl, rfl⟩
end Go.Proofs.YtgcdpfpffalalaaGreatDoor

set_option linter.unusedSimpArgs false
set_option linter.unusedVariables false
set_option maxRecDepth 8000
set_option maxHeartbeats 2000000
namespace Go.Proofs.YtgcdpfpffalalaaGreatDoor
open Go Go.Abs Go.Cw

section
attribute [local go_sem] Cnt.c
theorem c_cost_count0 (p : Proc) : APure Tryz.prog 54 [.agg p.c, I 0] (I (if detErr p = 0 then (cntB p.body).st else -1)) := by
  refine apure_introB Tryz.func54 rfl (by kernel_rfl) (by simp [Tryz.ntmps54]) rfl ?_
  intro E h hN hh hu hb
  rw [Tryz.ntmps54] at hN
  refine awp_of_wpC _ _ _ ?_
  simp -dsimp [go_sem, hN]
  refine tcall_pure (c_determinism_Check p) ?_
  simp -dsimp [go_sem, hN]
  refine cnd (fun h0 => ?_) (fun h0 => ?_) <;> simp at h0
  · simp -dsimp [go_sem, hN, h0]
  simp -dsimp [go_sem, hN]
  refine tcall_pure (c_cost_block p.body) ?_
  simp -dsimp [go_sem, hN, h0]
theorem c_cost_count1 (p : Proc) : APure Tryz.prog 54 [.agg p.c, I 1] (I (if detErr p = 0 then (cntB p.body).ge else -1)) := by
  refine apure_introB Tryz.func54 rfl (by kernel_rfl) (by simp [Tryz.ntmps54]) rfl ?_
  intro E h hN hh hu hb
  rw [Tryz.ntmps54] at hN
  refine awp_of_wpC _ _ _ ?_
  simp -dsimp [go_sem, hN]
  refine tcall_pure (c_determinism_Check p) ?_
  simp -dsimp [go_sem, hN]
  refine cnd (fun h0 => ?_) (fun h0 => ?_) <;> simp at h0
  · simp -dsimp [go_sem, hN, h0]
  simp -dsimp [go_sem, hN]
  refine tcall_pure (c_cost_block p.body) ?_
  simp -dsimp [go_sem, hN, h0]
theorem c_cost_count2 (p : Proc) : APure Tryz.prog 54 [.agg p.c, I 2] (I (if detErr p = 0 then (cntB p.body).pu else -1)) := by
  refine apure_introB Tryz.func54 rfl (by kernel_rfl) (by simp [Tryz.ntmps54]) rfl ?_
  intro E h hN hh hu hb
  rw [Tryz.ntmps54] at hN
  refine awp_of_wpC _ _ _ ?_
  simp -dsimp [go_sem, hN]
  refine tcall_pure (c_determinism_Check p) ?_
  simp -dsimp [go_sem, hN]
  refine cnd (fun h0 => ?_) (fun h0 => ?_) <;> simp at h0
  · simp -dsimp [go_sem, hN, h0]
  simp -dsimp [go_sem, hN]
  refine tcall_pure (c_cost_block p.body) ?_
  simp -dsimp [go_sem, hN, h0]
theorem c_cost_count3 (p : Proc) : APure Tryz.prog 54 [.agg p.c, I 3] (I (if detErr p = 0 then (cntB p.body).em else -1)) := by
  refine apure_introB Tryz.func54 rfl (by kernel_rfl) (by simp [Tryz.ntmps54]) rfl ?_
  intro E h hN hh hu hb
  rw [Tryz.ntmps54] at hN
  refine awp_of_wpC _ _ _ ?_
  simp -dsimp [go_sem, hN]
  refine tcall_pure (c_determinism_Check p) ?_
  simp -dsimp [go_sem, hN]
  refine cnd (fun h0 => ?_) (fun h0 => ?_) <;> simp at h0
  · simp -dsimp [go_sem, hN, h0]
  simp -dsimp [go_sem, hN]
  refine tcall_pure (c_cost_block p.body) ?_
  simp -dsimp [go_sem, hN, h0]
end
theorem c_cost_Steps (p : Proc) : APure Tryz.prog 21 [.agg p.c] (I (if detErr p = 0 then (cntB p.body).st else -1)) := by
  refine apure_introB Tryz.func21 rfl (by kernel_rfl) (by simp [Tryz.ntmps21]) rfl ?_
  intro E h hN hh hu hb
  rw [Tryz.ntmps21] at hN
  refine awp_of_wpC _ _ _ ?_
  simp -dsimp [go_sem, hN]
  refine tcall_pure (c_cost_count0 p) ?_
  simp -dsimp [go_sem, hN]
theorem c_cost_Gets (p : Proc) : APure Tryz.prog 22 [.agg p.c] (I (if detErr p = 0 then (cntB p.body).ge else -1)) := by
  refine apure_introB Tryz.func22 rfl (by kernel_rfl) (by simp [Tryz.ntmps22]) rfl ?_
  intro E h hN hh hu hb
  rw [Tryz.ntmps22] at hN
  refine awp_of_wpC _ _ _ ?_
  simp -dsimp [go_sem, hN]
  refine tcall_pure (c_cost_count1 p) ?_
  simp -dsimp [go_sem, hN]
theorem c_cost_Puts (p : Proc) : APure Tryz.prog 23 [.agg p.c] (I (if detErr p = 0 then (cntB p.body).pu else -1)) := by
  refine apure_introB Tryz.func23 rfl (by kernel_rfl) (by simp [Tryz.ntmps23]) rfl ?_
  intro E h hN hh hu hb
  rw [Tryz.ntmps23] at hN
  refine awp_of_wpC _ _ _ ?_
  simp -dsimp [go_sem, hN]
  refine tcall_pure (c_cost_count2 p) ?_
  simp -dsimp [go_sem, hN]
theorem c_cost_Emits (p : Proc) : APure Tryz.prog 24 [.agg p.c] (I (if detErr p = 0 then (cntB p.body).em else -1)) := by
  refine apure_introB Tryz.func24 rfl (by kernel_rfl) (by simp [Tryz.ntmps24]) rfl ?_
  intro E h hN hh hu hb
  rw [Tryz.ntmps24] at hN
  refine awp_of_wpC _ _ _ ?_
  simp -dsimp [go_sem, hN]
  refine tcall_pure (c_cost_count3 p) ?_
  simp -dsimp [go_sem, hN]
variable {tT : TypeId} {tx : Nat × Nat} {g : Nat}
section
attribute [local go_sem] runC
theorem c_law15_InterpBounds (p : Proc) (args : List V) (ft : Foot) (st : List Pr) (h : AHeap) (hg : h[g]? = some (tabO tT tx)) (hI : RunIn fmtI p args st) :
    ACalls Tryz.prog 6 [.agg (runC p args ft), .slice (st.map Pr.c)] h fun r h' => r = .ret (Bo true) ∧ h' = h := by
  refine acalls_introB Tryz.func6 rfl (by kernel_rfl) (by simp [Tryz.ntmps6]) ?_
  intro E hN hh hu hb hb' hua
  rw [Tryz.ntmps6] at hN
  refine awp_of_wpC _ _ _ ?_
  have hgl : g < h.length := (List.getElem?_eq_some_iff.1 hg).1
  have hg' : ∀ l : AHeap, (h ++ l)[g]? = some (tabO tT tx) := fun l => by rw [List.getElem?_append_left hgl]; exact hg
  simp [go_sem] at hb
  obtain ⟨E1, hE1⟩ : ∃ E1, runS fmtI p args st ft = E1 := ⟨_, rfl⟩
  have hrun := fun H hH => c_interp_Run (g := g) (tT := tT) (tx := tx) p args st ft H hH hI
  have f0 := run_len ft hI
  have fw := run_wrong (fmt := fmtI) (p := p) (args := args) (st := st) (ft := ft)
  have fb := run_bounds (ft := ft) hI
  have fe := run_else (fmt := fmtI) (p := p) (args := args) (st := st) (ft := ft)
  have fc := run_commit (ft := ft) hI
  simp only [hE1] at hrun f0 fw fb fe fc
  simp -dsimp [go_sem, hN]
  refine tcall (hrun _ (hg' _)) ?_
  rintro r h' ⟨rfl, rfl⟩
  simp -dsimp [go_sem, hN]
  refine tcall_pure (c_cost_Check p) ?_
  simp -dsimp [go_sem, hN]
  refine cnd (fun hc => ?_) (fun hc => ?_) <;> simp at hc
  · have he := fw hc
    subst he
    have hsm := c_ref15_Same wrongE wrongE
    rw [sameE_refl] at hsm
    simp -dsimp [go_sem, hN]
    refine tcall_pure hsm ?_
    simp -dsimp [go_sem, hN]
    refine tgcall_true (by simp) ((c_law15_examples _ (hg' _)).mono ?_)
    rintro r h' ⟨rfl, rfl⟩
    simp -dsimp [go_sem, hN]
    exact ⟨_, .refl _, h, by simp [go_sem], hwk.app0 _, Nat.le_refl _, hu, rfl, rfl⟩
  have hd := cost_det hc
  obtain ⟨b1, b2, b3, b4⟩ := fb hc
  have s1 : ¬ (cntB p.body).st < E1.steps := by omega
  have s2 : ¬ (cntB p.body).ge < E1.reads.length := by omega
  have s3 : ¬ (cntB p.body).pu < E1.puts.length := by omega
  have s4 : ¬ (cntB p.body).em < E1.out.length := by omega
  simp -dsimp [go_sem, hN]
  refine awp_drawQ 32 mixed (by kernel_rfl) (by kernel_rfl) ?_
  simp -dsimp [go_sem, hN]
  refine tdcall (c_cost_Steps p) (by simp) ?_
  simp -dsimp [go_sem, hN, hd, s1]
  refine tdcall (c_cost_Gets p) (by simp) ?_
  simp -dsimp [go_sem, hN, hd, s2]
  refine tdcall (c_cost_Puts p) (by simp) ?_
  simp -dsimp [go_sem, hN, hd, s3]
  refine tdcall (c_cost_Emits p) (by simp) ?_
  simp -dsimp [go_sem, hN, hd, s4]
  refine cnd (fun h1 => ?_) (fun h1 => ?_) <;> simp at h1
  · obtain ⟨w1, w2, w3⟩ := fe h1
    have w3' : (decide (E1.status = 2) || decide (E1.status = 3) && decide (E1.code = 0)) = true := by simpa using w3
    simp -dsimp [go_sem, hN, w1, w2]
    refine ⟨by grind, ?_⟩
    rw [w3']
    refine tgcall_true (by simp) ?_
    refine (c_law15_examples _ (hg' _)).mono ?_
    rintro r h' ⟨rfl, rfl⟩
    simp -dsimp [go_sem, hN]
    exact ⟨_, .refl _, h, by simp [go_sem], hwk.app0 _, Nat.le_refl _, hu, rfl, rfl⟩
  obtain ⟨w1, w2, w3⟩ := fc h1
  have wl : E1.writes.length = E1.puts.length := by rw [← w1, List.length_map]
  simp -dsimp [go_sem, hN, w2, wl]
  refine tgcall_pure (c_ref06_ValidWrites E1.writes) (by simp) ?_
  simp -dsimp [go_sem, hN, w3]
  refine awp_loopN E1.puts.length (fun n => True) (fun n => ⟨[(5, .ptr (h.length + 1) 0), (6, I n)], h ++ [.cells (runC p args ft), .cells E1.c]⟩) trivial (Wk.mk (by simp [hh]) (by simp [go_sem, w2]) (by simp [hu, hUnder_ext hu, go_sem]) (by simp [go_sem])) ?_
  intro n hn _
  have hw := wrapS hn (show _ ≤ 68719476736 by omega)
  simp -dsimp [go_sem, hN]
  refine cnd (fun hc => ?_) (fun hc => ?_) <;> simp at hc
  · have hc' : n < E1.writes.length := by omega
    have hk : E1.writes[n].key = E1.puts[n] := by simp only [← w1, List.getElem_map]
    simp -dsimp [go_sem, hN, hc, hc', hk]
    refine awp_drawQ 11 mixed (by kernel_rfl) (by kernel_rfl) ?_
    simp -dsimp [go_sem, hN, hc, hc', hk, hw]
    exact (Wk.mk (by simp [hh]) (by simp [go_sem]) (by simp [hu, hUnder_ext hu, go_sem]) (by simp [go_sem]))
  · simp -dsimp [go_sem, hN]
    refine tcall (c_law15_examples _ (hg' _)) ?_
    rintro r h' ⟨rfl, rfl⟩
    simp -dsimp [go_sem, hN]
    exact ⟨_, .refl _, h, by simp [go_sem], hwk.app0 _, Nat.le_refl _, hu, rfl, rfl⟩
end
end Go.Proofs.YtgcdpfpffalalaaGreatDoor

set_option linter.unusedSimpArgs false
set_option linter.unusedVariables false
set_option maxRecDepth 8000
namespace Go.Proofs.YtgcdpfpffalalaaGreatDoor
open Go Go.Abs Go.Cw

section
variable {H : Type} {enc : TypeId × Value → H} {w : World}
theorem bulk_part {d : DataW H} {l : List (DataW H)} (h : d ∈ l) : Rows.uptoBulk d ≤ Rows.uptoBulkAll l := by
  induction l with
  | nil => cases h
  | cons x r ih =>
    simp only [Rows.uptoBulkAll]
    rcases List.mem_cons.1 h with rfl | e
    · omega
    · have := ih e; omega
theorem bulk_one (d : DataW H) : 1 ≤ Rows.uptoBulk d := by
  cases d with
  | lit l => cases l <;> simp [Rows.uptoBulk]
  | nil => simp [Rows.uptoBulk]
  | ptr d => simp [Rows.uptoBulk]
  | slice elems spare => simp [Rows.uptoBulk]
  | agg parts => simp [Rows.uptoBulk]
  | iface t d => simp [Rows.uptoBulk]
  | map entries => simp [Rows.uptoBulk]
  | held h => simp [Rows.uptoBulk]
theorem bulk_len (l : List (DataW H)) : l.length ≤ Rows.uptoBulkAll l := by
  induction l with
  | nil => simp [Rows.uptoBulkAll]
  | cons x r ih => have := bulk_one x; simp only [Rows.uptoBulkAll, List.length_cons]; omega
theorem bulkB : Bulk (H := H) Rows.uptoBulk where
  str := fun s => by simp [Rows.uptoBulk]
  len := fun e s => by have := bulk_len e; simp only [Rows.uptoBulk]; omega
  sl := fun e s x hx => by have := bulk_part hx; simp only [Rows.uptoBulk]; omega
  agg := fun ps x hx => by have := bulk_part hx; simp only [Rows.uptoBulk]; omega

/-- the bound of the second form -/
abbrev UB : Nat := 1048576
variable (enc w) in
abbrev RD (n : Nat) (t : TypeId) (Q : List AV → Prop) : Prop := Rd enc Tryz.prog w Rows.uptoBulk UB n t Q
theorem ub_le : UB ≤ 68719476736 := by decide

/-! what is read, as data -/
def rOf {α : Type} (c : α → List AV) (good : α → Prop) (xs : List AV) : Prop := ∃ a, xs = c a ∧ good a
def gStr (s : Bytes) : Prop := s.size ≤ UB
def gSl {α : Type} (good : α → Prop) (l : List α) : Prop := l.length ≤ UB ∧ ∀ a ∈ l, good a
def qOf {α : Type} (c : α → List AV) (good : α → Prop) (xs : List AV) : Prop := rOf (fun l : List α => [.slice (l.map c)]) (gSl good) xs
theorem rd_of {n : Nat} {t e : TypeId} (ht : Tryz.prog.underlying t = some (.slice e)) {sz : Nat} (hsz : Tryz.prog.cellsOf e = sz) (h0 : 0 < sz) {α : Type} {c : α → List AV} {good : α → Prop} (hl : ∀ a, (c a).length = sz) (he : RD enc w n e (rOf c good)) : RD enc w n t (qOf c good) := by
  refine (rd_slice bulkB ub_le ht hsz h0 (by rintro _ ⟨a, rfl, _⟩; exact hl a) he).mono ?_
  rintro _ ⟨rows, rfl, hlen, hq⟩
  obtain ⟨l, rfl, hg⟩ := rows_list hq
  exact ⟨l, rfl, by simpa using hlen, hg⟩
theorem len_of {α : Type} {c : α → List AV} {good : α → Prop} : ∀ xs, qOf c good xs → xs.length = 1 := by rintro _ ⟨l, rfl, _⟩; rfl
theorem rd_I {n : Nat} : RD enc w n 3 (qInt .i64) := rd_int (by decide) Tryz.underlying3
theorem rd_I64 {n : Nat} : RD enc w n 2 (qInt .i64) := rd_int (by decide) Tryz.underlying2
theorem rd_S {n : Nat} : RD enc w n 9 (qStr UB) := rd_str bulkB ub_le Tryz.underlying9
theorem rd_B {n : Nat} : RD enc w n 4 qBool := rd_bool Tryz.underlying4
theorem i64_of {z : Int} (h : IntKind.i64.min ≤ z ∧ z ≤ IntKind.i64.max) : i64 z := ⟨h.1, h.2⟩

theorem rd_V : ∀ {n : Nat}, RD enc w n 41 (rOf V.c rngV)
  | 0 => Rd.zero
  | n + 1 => by
    refine (rd_struct (Qs := [qInt .i64, qInt .i64, qStr UB]) bulkB Tryz.underlying41 ?_).mono ?_
    · simp only [Flds]
      exact ⟨(by first | rfl | trivial), 1, by kernel_rfl, rd_I, len_int, (by first | rfl | trivial), 1, by kernel_rfl, rd_I64, len_int, (by first | rfl | trivial), 1, by kernel_rfl, rd_S, len_str, by first | kernel_rfl | trivial⟩
    · rintro _ ⟨ps, hp0, rfl⟩
      obtain ⟨_, _, rfl, ⟨k, rfl, _⟩, hp1⟩ := parts_cons hp0
      obtain ⟨_, _, rfl, ⟨z, rfl, hz⟩, hp2⟩ := parts_cons hp1
      obtain ⟨_, _, rfl, ⟨s, rfl, hs⟩, hp3⟩ := parts_cons hp2
      obtain rfl := parts_nil hp3
      exact ⟨⟨k, z, s⟩, rfl, i64_of hz, by show s.size ≤ _; unfold UB at hs; omega⟩
def gP (p : Pr) : Prop := p.key.size ≤ UB ∧ rngV p.v
theorem rd_P : ∀ {n : Nat}, RD enc w n 44 (rOf Pr.c gP)
  | 0 => Rd.zero
  | n + 1 => by
    refine (rd_struct (Qs := [qStr UB, rOf V.c rngV]) bulkB Tryz.underlying44 ?_).mono ?_
    · simp only [Flds]
      exact ⟨(by first | rfl | trivial), 1, by kernel_rfl, rd_S, len_str, (by first | rfl | trivial), 3, by kernel_rfl, rd_V, by rintro _ ⟨v, rfl, _⟩; rfl, by first | kernel_rfl | trivial⟩
    · rintro _ ⟨ps, hp0, rfl⟩
      obtain ⟨_, _, rfl, ⟨k, rfl, hk⟩, hp1⟩ := parts_cons hp0
      obtain ⟨_, _, rfl, ⟨v, rfl, hv⟩, hp2⟩ := parts_cons hp1
      obtain rfl := parts_nil hp2
      exact ⟨⟨k, v⟩, rfl, hk, hv⟩
theorem rd_Vs {n : Nat} : RD enc w n 26 (qOf V.c rngV) := rd_of Tryz.underlying26 (sz := 3) (by kernel_rfl) (by decide) (fun _ => rfl) rd_V
theorem rd_Ps {n : Nat} : RD enc w n 32 (qOf Pr.c gP) := rd_of Tryz.underlying32 (sz := 4) (by kernel_rfl) (by decide) (fun _ => rfl) rd_P
theorem rd_Ss {n : Nat} : RD enc w n 27 (qOf sRow gStr) := rd_of Tryz.underlying27 (sz := 1) (by kernel_rfl) (by decide) (fun _ => rfl) (rd_S.mono (by rintro _ ⟨s, rfl, hs⟩; exact ⟨s, rfl, hs⟩))
theorem rd_E : ∀ (n : Nat), RD enc w n 58 (rOf Ex.c rngX)
  | 0 => Rd.zero
  | n + 1 => by
    have hs : RD enc w n 56 (qOf Ex.c rngX) := rd_of Tryz.underlying56 (sz := 4) (by kernel_rfl) (by decide) (fun e => by rw [Ex.c_eq]; rfl) (rd_E n)
    refine (rd_struct (Qs := [qInt .i64, qInt .i64, qStr UB, qOf Ex.c rngX]) bulkB Tryz.underlying58 ?_).mono ?_
    · simp only [Flds]
      exact ⟨(by first | rfl | trivial), 1, by kernel_rfl, rd_I, len_int, (by first | rfl | trivial), 1, by kernel_rfl, rd_I64, len_int, (by first | rfl | trivial), 1, by kernel_rfl, rd_S, len_str, (by first | rfl | trivial), 1, by kernel_rfl, hs, len_of, by first | kernel_rfl | trivial⟩
    · rintro _ ⟨ps, hp0, rfl⟩
      obtain ⟨_, _, rfl, ⟨k, rfl, _⟩, hp1⟩ := parts_cons hp0
      obtain ⟨_, _, rfl, ⟨z, rfl, hz⟩, hp2⟩ := parts_cons hp1
      obtain ⟨_, _, rfl, ⟨s, rfl, hs⟩, hp3⟩ := parts_cons hp2
      obtain ⟨_, _, rfl, ⟨l, rfl, hl⟩, hp4⟩ := parts_cons hp3
      obtain rfl := parts_nil hp4
      refine ⟨.mk k z s l, by rw [Ex.c_eq]; rfl, (rngX_iff _).2 ⟨⟨i64_of hz, by show s.size ≤ _; unfold UB at hs; omega⟩, hl.2⟩⟩
theorem rd_T : ∀ (n : Nat), RD enc w n 103 (rOf St.c rngS)
  | 0 => Rd.zero
  | n + 1 => by
    have hs : RD enc w n 23 (qOf St.c rngS) := rd_of Tryz.underlying23 (sz := 13) (by kernel_rfl) (by decide) (fun e => by rw [St.c_eq]; rfl) (rd_T n)
    refine (rd_struct (Qs := [qInt .i64, qStr UB, qInt .i64, rOf Ex.c rngX, rOf Ex.c rngX, qOf St.c rngS, qOf St.c rngS]) bulkB Tryz.underlying103 ?_).mono ?_
    · simp only [Flds]
      exact ⟨(by first | rfl | trivial), 1, by kernel_rfl, rd_I, len_int, (by first | rfl | trivial), 1, by kernel_rfl, rd_S, len_str, (by first | rfl | trivial), 1, by kernel_rfl, rd_I, len_int, (by first | rfl | trivial), 4, by kernel_rfl, rd_E n, by rintro _ ⟨e, rfl, _⟩; rw [Ex.c_eq]; rfl, (by first | rfl | trivial), 4, by kernel_rfl, rd_E n, by rintro _ ⟨e, rfl, _⟩; rw [Ex.c_eq]; rfl, (by first | rfl | trivial), 1, by kernel_rfl, hs, len_of, (by first | rfl | trivial), 1, by kernel_rfl, hs, len_of, by first | kernel_rfl | trivial⟩
    · rintro _ ⟨ps, hp0, rfl⟩
      obtain ⟨_, _, rfl, ⟨k, rfl, _⟩, hp1⟩ := parts_cons hp0
      obtain ⟨_, _, rfl, ⟨s, rfl, hs⟩, hp2⟩ := parts_cons hp1
      obtain ⟨_, _, rfl, ⟨m, rfl, _⟩, hp3⟩ := parts_cons hp2
      obtain ⟨_, _, rfl, ⟨a, rfl, ha⟩, hp4⟩ := parts_cons hp3
      obtain ⟨_, _, rfl, ⟨b, rfl, hb⟩, hp5⟩ := parts_cons hp4
      obtain ⟨_, _, rfl, ⟨l, rfl, hl⟩, hp6⟩ := parts_cons hp5
      obtain ⟨_, _, rfl, ⟨l', rfl, hl'⟩, hp7⟩ := parts_cons hp6
      obtain rfl := parts_nil hp7
      refine ⟨.mk k s m a b l l', ?_, (rngS_iff _).2 ⟨ha, hb, hl.2, hl'.2⟩⟩
      simp [St.c, St.cl_map]
theorem rd_Ts {n : Nat} : RD enc w n 23 (qOf St.c rngS) := rd_of Tryz.underlying23 (sz := 13) (by kernel_rfl) (by decide) (fun e => by rw [St.c_eq]; rfl) (rd_T n)
theorem rd_M : ∀ {n : Nat}, RD enc w n 68 (rOf Param.c fun p => gStr p.name)
  | 0 => Rd.zero
  | n + 1 => by
    refine (rd_struct (Qs := [qStr UB, qInt .i64]) bulkB Tryz.underlying68 ?_).mono ?_
    · simp only [Flds]
      exact ⟨(by first | rfl | trivial), 1, by kernel_rfl, rd_S, len_str, (by first | rfl | trivial), 1, by kernel_rfl, rd_I, len_int, by first | kernel_rfl | trivial⟩
    · rintro _ ⟨ps, hp0, rfl⟩
      obtain ⟨_, _, rfl, ⟨s, rfl, hs⟩, hp1⟩ := parts_cons hp0
      obtain ⟨_, _, rfl, ⟨k, rfl, _⟩, hp2⟩ := parts_cons hp1
      obtain rfl := parts_nil hp2
      exact ⟨⟨s, k⟩, rfl, hs⟩
theorem rd_Ms {n : Nat} : RD enc w n 22 (qOf Param.c fun p => gStr p.name) := rd_of Tryz.underlying22 (sz := 2) (by kernel_rfl) (by decide) (fun _ => rfl) rd_M
def gProc (p : Proc) : Prop := gStr p.name ∧ gSl (fun x : Param => gStr x.name) p.params ∧ gSl rngS p.body
theorem rd_Proc : ∀ {n : Nat}, RD enc w n 25 (rOf Proc.c gProc)
  | 0 => Rd.zero
  | n + 1 => by
    refine (rd_struct (Qs := [qStr UB, qOf Param.c fun p => gStr p.name, qOf St.c rngS]) bulkB Tryz.underlying25 ?_).mono ?_
    · simp only [Flds]
      exact ⟨(by first | rfl | trivial), 1, by kernel_rfl, rd_S, len_str, (by first | rfl | trivial), 1, by kernel_rfl, rd_Ms, len_of, (by first | rfl | trivial), 1, by kernel_rfl, rd_Ts, len_of, by first | kernel_rfl | trivial⟩
    · rintro _ ⟨ps, hp0, rfl⟩
      obtain ⟨_, _, rfl, ⟨s, rfl, hs⟩, hp1⟩ := parts_cons hp0
      obtain ⟨_, _, rfl, ⟨l, rfl, hl⟩, hp2⟩ := parts_cons hp1
      obtain ⟨_, _, rfl, ⟨b, rfl, hb⟩, hp3⟩ := parts_cons hp2
      obtain rfl := parts_nil hp3
      exact ⟨⟨s, l, b⟩, rfl, hs, hl, hb⟩
def gFoot (f : Foot) : Prop := gSl gStr f.reads ∧ gSl gStr f.writes
theorem rd_Foot : ∀ {n : Nat}, RD enc w n 29 (rOf Foot.c gFoot)
  | 0 => Rd.zero
  | n + 1 => by
    refine (rd_struct (Qs := [qBool, qOf sRow gStr, qOf sRow gStr]) bulkB Tryz.underlying29 ?_).mono ?_
    · simp only [Flds]
      exact ⟨(by first | rfl | trivial), 1, by kernel_rfl, rd_B, len_bool, (by first | rfl | trivial), 1, by kernel_rfl, rd_Ss, len_of, (by first | rfl | trivial), 1, by kernel_rfl, rd_Ss, len_of, by first | kernel_rfl | trivial⟩
    · rintro _ ⟨ps, hp0, rfl⟩
      obtain ⟨_, _, rfl, ⟨b, rfl⟩, hp1⟩ := parts_cons hp0
      obtain ⟨_, _, rfl, ⟨l, rfl, hl⟩, hp2⟩ := parts_cons hp1
      obtain ⟨_, _, rfl, ⟨l', rfl, hl'⟩, hp3⟩ := parts_cons hp2
      obtain rfl := parts_nil hp3
      exact ⟨⟨b, l, l'⟩, rfl, hl, hl'⟩
structure gEff (e : Eff) : Prop where
  out : gSl rngV e.out
  reads : gSl gStr e.reads
  puts : gSl gStr e.puts
  writes : gSl gP e.writes
  miss : gStr e.miss
def qOut (xs : List AV) : Prop := ∃ s c l, xs = [I s, I c, .slice (l.map V.c)] ∧ gSl rngV l
theorem rd_Out : ∀ {n : Nat}, RD enc w n 34 qOut
  | 0 => Rd.zero
  | n + 1 => by
    refine (rd_struct (Qs := [qInt .i64, qInt .i64, qOf V.c rngV]) bulkB Tryz.underlying34 ?_).mono ?_
    · simp only [Flds]
      exact ⟨(by first | rfl | trivial), 1, by kernel_rfl, rd_I, len_int, (by first | rfl | trivial), 1, by kernel_rfl, rd_I, len_int, (by first | rfl | trivial), 1, by kernel_rfl, rd_Vs, len_of, by first | kernel_rfl | trivial⟩
    · rintro _ ⟨ps, hp0, rfl⟩
      obtain ⟨_, _, rfl, ⟨s, rfl, _⟩, hp1⟩ := parts_cons hp0
      obtain ⟨_, _, rfl, ⟨c, rfl, _⟩, hp2⟩ := parts_cons hp1
      obtain ⟨_, _, rfl, ⟨l, rfl, hl⟩, hp3⟩ := parts_cons hp2
      obtain rfl := parts_nil hp3
      exact ⟨s, c, l, rfl, hl⟩
theorem rd_Eff : ∀ {n : Nat}, RD enc w n 36 (rOf Eff.c gEff)
  | 0 => Rd.zero
  | n + 1 => by
    refine (rd_struct (Qs := [qOut, qOf sRow gStr, qOf sRow gStr, qOf Pr.c gP, qStr UB, qInt .i64]) bulkB Tryz.underlying36 ?_).mono ?_
    · simp only [Flds]
      exact ⟨(by first | rfl | trivial), 3, by kernel_rfl, rd_Out, by rintro _ ⟨s, c, l, rfl, _⟩; rfl, (by first | rfl | trivial), 1, by kernel_rfl, rd_Ss, len_of, (by first | rfl | trivial), 1, by kernel_rfl, rd_Ss, len_of, (by first | rfl | trivial), 1, by kernel_rfl, rd_Ps, len_of, (by first | rfl | trivial), 1, by kernel_rfl, rd_S, len_str, (by first | rfl | trivial), 1, by kernel_rfl, rd_I, len_int, by first | kernel_rfl | trivial⟩
    · rintro _ ⟨ps, hp0, rfl⟩
      obtain ⟨_, _, rfl, ⟨s, c, l, rfl, hl⟩, hp1⟩ := parts_cons hp0
      obtain ⟨_, _, rfl, ⟨a, rfl, ha⟩, hp2⟩ := parts_cons hp1
      obtain ⟨_, _, rfl, ⟨b, rfl, hb⟩, hp3⟩ := parts_cons hp2
      obtain ⟨_, _, rfl, ⟨v, rfl, hv⟩, hp4⟩ := parts_cons hp3
      obtain ⟨_, _, rfl, ⟨m, rfl, hm⟩, hp5⟩ := parts_cons hp4
      obtain ⟨_, _, rfl, ⟨k, rfl, _⟩, hp6⟩ := parts_cons hp5
      obtain rfl := parts_nil hp6
      exact ⟨⟨s, c, l, a, b, v, m, k⟩, rfl, hl, ha, hb, hv, hm⟩
end
end Go.Proofs.YtgcdpfpffalalaaGreatDoor

set_option linter.unusedSimpArgs false
set_option linter.unusedVariables false
set_option maxRecDepth 8000
namespace Go.Proofs.YtgcdpfpffalalaaGreatDoor
open Go Go.Abs Go.Cw Go.ChangeShapes Go.WideShapes Go.ChangeAt Go.RowKit

theorem laidOut : laidOutB Tryz.prog = true := by kernel_rfl
theorem ownK : ownKnob Tryz.prog.godebug = none := by kernel_rfl
abbrev laidL : List (String × DataW Unit) := [("math/bits.deBruijn32tab", Rows.laid_math_bits_deBruijn32tab), ("math/bits.deBruijn64tab", Rows.laid_math_bits_deBruijn64tab), ("internal/strconv.uint64pow10", Rows.laid_internal_strconv_uint64pow10)]
abbrev gTab : Nat := 0
theorem table {W : World} (h : laidMetH Tryz.prog laidL W) : Lib.TabIs Tryz.prog W "internal/strconv.uint64pow10" .u64 Lib.pow10Tab :=
  Lib.tabIs_of_head (rest := []) (g := gTab) (n := 20) (by kernel_rfl) (by kernel_rfl) Tryz.underlying246 Tryz.underlying165 (by kernel_rfl) (by kernel_rfl) (laidMet.tail (laidMet.tail (show laidMet Tryz.prog laidL W from h)))
theorem table_heap {W : World} (h : laidMetH Tryz.prog laidL W) : ∃ T x, W.heap[gTab]? = some (.cells tabV T x) := by
  have h1 := table h
  unfold Lib.TabIs World.var? at h1
  rw [show Tryz.prog.globalNamed "internal/strconv.uint64pow10" = some gTab by kernel_rfl] at h1
  simp only [Option.bind_some] at h1
  split at h1
  · rename_i cs T x hx
    cases h1
    exact ⟨T, x, hx⟩
  · cases h1
theorem tab_u64 : ∀ (j : Nat) (v : Value), tabV[j]? = some v → ∃ n, v = .int .u64 n := by
  intro j v hv
  unfold tabV at hv
  have : (Lib.pow10Tab.map fun z => Value.int .u64 z)[j]? = some v := by simpa using hv
  rw [List.getElem?_map, Option.map_eq_some_iff] at this
  obtain ⟨z, _, rfl⟩ := this
  exact ⟨z, rfl⟩
/-- the cells of a list of numbers -/
def putTab (zs : List Value) : Obj → Obj
  | .cells _ t fr => .cells zs.toArray t fr
  | o => o
def tabVals (d : DataW Unit) : List Value := match d with
  | .agg ps => ps.map fun | .lit (.int k n) => .int k n | _ => undef
  | _ => []
/-- a world in which the tables hold what their initialisers lay -/
noncomputable def laidWorld (os : Os) : World :=
  { World.holding Tryz.prog os ⟨#[], #[], []⟩ with heap := (((World.holding Tryz.prog os ⟨#[], #[], []⟩).heap.modify gTab (putTab (tabVals Rows.laid_internal_strconv_uint64pow10))).modify 2 (putTab (tabVals Rows.laid_math_bits_deBruijn32tab))).modify 3 (putTab (tabVals Rows.laid_math_bits_deBruijn64tab)) }

section
variable {H : Type} {enc : TypeId × Value → H} {W : World} {base : Nat}
theorem okWide_struct {t : TypeId} {fs : Array Field} (ht : Tryz.prog.underlying t = some (.struct fs)) {v : Value} (h : Value.okWide Tryz.prog W .any base t v) : ∃ cs, v = .agg cs := by
  unfold Value.okWide at h
  rw [ht] at h
  obtain ⟨cs, rfl, _⟩ := h
  exact ⟨cs, rfl⟩
theorem okWide_slice {t e : TypeId} (ht : Tryz.prog.underlying t = some (.slice e)) {v : Value} (h : Value.okWide Tryz.prog W .any base t v) : v.cells = #[v] := by
  unfold Value.okWide at h
  rw [ht] at h
  simp only at h
  unfold Cell.okWide at h
  rw [ht] at h
  cases v <;> first | rfl | skip
  unfold Cell.ok at h
  rw [ht] at h
  exact h.elim
/-- an argument of a struct type -/
theorem arg_struct {t : TypeId} {fs : Array Field} (ht : Tryz.prog.underlying t = some (.struct fs)) {v : Value} {d : DataW H} {ps : List MemPlace} (hv : Value.okWide Tryz.prog W .any base t v) (h : DataW.Trod enc Tryz.prog W 0 (fun _ => true) true t v d ps)
    {α : Type} {c : α → List AV} {good : α → Prop} (hr : ∀ n, RD enc W n t (rOf c good)) (hb : Rows.uptoBulk d ≤ UB) : ∃ a, Rel (ctxR W gTab) (.agg (c a)) v ∧ good a := by
  obtain ⟨cs, rfl⟩ := okWide_struct ht hv
  obtain ⟨fuel, hf⟩ := h
  obtain ⟨_, hd, a, rfl, hg⟩ := hr fuel fuel _ _ _ (Nat.le_refl _) hf hb
  exact ⟨a, rel_agg hd, hg⟩
/-- an argument of a slice type -/
theorem arg_slice {t e : TypeId} (ht : Tryz.prog.underlying t = some (.slice e)) {v : Value} {d : DataW H} {ps : List MemPlace} (hv : Value.okWide Tryz.prog W .any base t v) (h : DataW.Trod enc Tryz.prog W 0 (fun _ => true) true t v d ps)
    {α : Type} {c : α → List AV} {good : α → Prop} (hr : ∀ n, RD enc W n t (qOf c good)) (hb : Rows.uptoBulk d ≤ UB) : ∃ l : List α, Rel (ctxR W gTab) (.slice (l.map c)) v ∧ gSl good l := by
  obtain ⟨fuel, hf⟩ := h
  rw [okWide_slice ht hv] at hf
  obtain ⟨_, hd, l, rfl, hg⟩ := hr fuel fuel _ _ _ (Nat.le_refl _) hf hb
  exact ⟨l, rel_one hd, hg⟩
end
end Go.Proofs.YtgcdpfpffalalaaGreatDoor

set_option linter.unusedSimpArgs false
set_option linter.unusedVariables false
set_option maxRecDepth 8000
namespace Go.Proofs.YtgcdpfpffalalaaGreatDoor
open Go Go.Abs Go.Cw

section
variable {H : Type} {enc : TypeId × Value → H} {w : World}
/-- a run as chapter 15 takes it -/
def gRun (r : Proc × List V × Foot) : Prop := gProc r.1 ∧ gSl rngV r.2.1 ∧ gFoot r.2.2
theorem rd_Run : ∀ {n : Nat}, RD enc w n 31 (rOf (fun r : Proc × List V × Foot => runC r.1 r.2.1 r.2.2) gRun)
  | 0 => Rd.zero
  | n + 1 => by
    refine (rd_struct (Qs := [rOf Proc.c gProc, qOf V.c rngV, rOf Foot.c gFoot]) bulkB Tryz.underlying31 ?_).mono ?_
    · simp only [Flds]
      exact ⟨(by first | rfl | trivial), 3, by kernel_rfl, rd_Proc, by rintro _ ⟨v, rfl, _⟩; rfl, (by first | rfl | trivial), 1, by kernel_rfl, rd_Vs, len_of, (by first | rfl | trivial), 3, by kernel_rfl, rd_Foot, by rintro _ ⟨v, rfl, _⟩; rfl, by first | kernel_rfl | trivial⟩
    · rintro _ ⟨ps, hp0, rfl⟩
      obtain ⟨_, _, rfl, ⟨p, rfl, hp⟩, hp1⟩ := parts_cons hp0
      obtain ⟨_, _, rfl, ⟨l, rfl, hl⟩, hp2⟩ := parts_cons hp1
      obtain ⟨_, _, rfl, ⟨f, rfl, hf⟩, hp3⟩ := parts_cons hp2
      obtain rfl := parts_nil hp3
      exact ⟨(p, l, f), rfl, hp, hl, hf⟩
theorem runIn_of {p : Proc} {args : List V} {st : List Pr} (hp : gProc p) (ha : gSl rngV args) (hs : gSl gP st) : RunIn fmtI p args st := ⟨plain_itoa, hp.2.2.2, ha.2, fun q hq => (hs.2 q hq).2⟩
end
end Go.Proofs.YtgcdpfpffalalaaGreatDoor
