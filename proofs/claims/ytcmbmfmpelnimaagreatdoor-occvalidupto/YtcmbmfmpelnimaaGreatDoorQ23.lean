/- Part 23 of a proof: W17, W18, W28, W29, W30 -/
import Derived.Shelf.Small.Strs
import Derived.Shelf.Strconv.Itoa4
import Derived.Lib.ItoaLen
import Derived.Test.YtcmbmfmpelnimaaGreatDoorQ09
import Derived.Test.YtcmbmfmpelnimaaGreatDoorQ10
import Derived.Test.YtcmbmfmpelnimaaGreatDoorQ13
import Derived.Test.YtcmbmfmpelnimaaGreatDoorQ14
import Derived.Test.YtcmbmfmpelnimaaGreatDoorQ16
import Derived.Test.YtcmbmfmpelnimaaGreatDoorQ18
import Derived.Test.YtcmbmfmpelnimaaGreatDoorQ20
import Derived.Test.YtcmbmfmpelnimaaGreatDoorQ21
import Derived.Test.YtcmbmfmpelnimaaGreatDoorQ22
set_option linter.all false

set_option maxRecDepth 4000
set_option maxHeartbeats 1000000
namespace Go.Proofs.YtcmbmfmpelnimaaGreatDoor
open Go Go.Abs Go.Cw
attribute [local go_sem] Cnt.c
theorem c_cost_reads (e : Ex) : APure Tryz.prog 159 [.agg e.x] (I (rdsE e)) := by
  refine apure_introB Tryz.func159 rfl (by kernel_rfl) (by simp [Tryz.ntmps159]) rfl ?_
  intro E h hN hh hu hb
  rw [Tryz.ntmps159] at hN
  refine awp_of_wpC _ _ _ ?_
  simp [go_sem] at hb
  rw [rdsE_eq]
  obtain ⟨G, hG⟩ : ∃ G : Int, G = if e.op = 22 ∨ e.op = 23 ∨ e.op = 24 then 1 else 0 := ⟨_, rfl⟩
  rw [← hG]
  simp -dsimp [go_sem, hN]
  refine cnd (fun h1 => ?_) (fun h1 => ?_) <;> simp at h1
  · simp -dsimp [go_sem, hN, decide_eq_true h1]
    have hv : G = 1 := by rw [hG, if_pos (by omega)]
    refine awp_loopA (α := Int) e.args.length (fun n m => rdsL (e.args.drop n) m = rdsL e.args G) (fun n m => ⟨[(1, .ptr h.length 0), (3, I m), (13, .slice (e.args.map Ex.c)), (14, I e.args.length), (15, I n)], h ++ [.cells e.x]⟩) G (by simp) (Wk.mk (by simp [hh]) (by simp [go_sem]) (by simp [hu, hUnder_ext hu, go_sem]) (by simp [go_sem, hv])) ?_
    intro n m hn hI
    have hw := wrapS hn hb.2.1
    simp -dsimp [go_sem, hN]
    refine cnd (fun hc => ?_) (fun hc => ?_) <;> simp at hc
    · rw [drop_next hc, rdsL] at hI
      have hlt : SizeOf.sizeOf e.args[n] < SizeOf.sizeOf e := Ex.arg_lt (List.getElem_mem hc)
      simp -dsimp [go_sem, hN, hc]
      refine tcall_pure (c_cost_reads e.args[n]) ?_
      simp -dsimp [go_sem, hN, hw]
      exact ⟨hc, _, hI, (Wk.mk (by simp [hh]) (by simp [go_sem]) (by simp [hu, hUnder_ext hu, go_sem]) (by simp [go_sem]))⟩
    · rw [List.drop_eq_nil_of_le (by omega), rdsL] at hI
      simp -dsimp [go_sem, hN, if_mn]
      rw [hI]
  simp -dsimp [go_sem, hN]
  refine cnd (fun h2 => ?_) (fun h2 => ?_) <;> simp at h2
  · simp -dsimp [go_sem, hN, decide_eq_true h2]
    have hv : G = 1 := by rw [hG, if_pos (by omega)]
    refine awp_loopA (α := Int) e.args.length (fun n m => rdsL (e.args.drop n) m = rdsL e.args G) (fun n m => ⟨[(1, .ptr h.length 0), (3, I m), (13, .slice (e.args.map Ex.c)), (14, I e.args.length), (15, I n)], h ++ [.cells e.x]⟩) G (by simp) (Wk.mk (by simp [hh]) (by simp [go_sem]) (by simp [hu, hUnder_ext hu, go_sem]) (by simp [go_sem, hv])) ?_
    intro n m hn hI
    have hw := wrapS hn hb.2.1
    simp -dsimp [go_sem, hN]
    refine cnd (fun hc => ?_) (fun hc => ?_) <;> simp at hc
    · rw [drop_next hc, rdsL] at hI
      have hlt : SizeOf.sizeOf e.args[n] < SizeOf.sizeOf e := Ex.arg_lt (List.getElem_mem hc)
      simp -dsimp [go_sem, hN, hc]
      refine tcall_pure (c_cost_reads e.args[n]) ?_
      simp -dsimp [go_sem, hN, hw]
      exact ⟨hc, _, hI, (Wk.mk (by simp [hh]) (by simp [go_sem]) (by simp [hu, hUnder_ext hu, go_sem]) (by simp [go_sem]))⟩
    · rw [List.drop_eq_nil_of_le (by omega), rdsL] at hI
      simp -dsimp [go_sem, hN, if_mn]
      rw [hI]
  simp -dsimp [go_sem, hN]
  refine cnd (fun h3 => ?_) (fun h3 => ?_) <;> simp at h3
  · simp -dsimp [go_sem, hN]
    have hv : G = 1 := by rw [hG, if_pos (by omega)]
    refine awp_loopA (α := Int) e.args.length (fun n m => rdsL (e.args.drop n) m = rdsL e.args G) (fun n m => ⟨[(1, .ptr h.length 0), (3, I m), (13, .slice (e.args.map Ex.c)), (14, I e.args.length), (15, I n)], h ++ [.cells e.x]⟩) G (by simp) (Wk.mk (by simp [hh]) (by simp [go_sem]) (by simp [hu, hUnder_ext hu, go_sem]) (by simp [go_sem, hv])) ?_
    intro n m hn hI
    have hw := wrapS hn hb.2.1
    simp -dsimp [go_sem, hN]
    refine cnd (fun hc => ?_) (fun hc => ?_) <;> simp at hc
    · rw [drop_next hc, rdsL] at hI
      have hlt : SizeOf.sizeOf e.args[n] < SizeOf.sizeOf e := Ex.arg_lt (List.getElem_mem hc)
      simp -dsimp [go_sem, hN, hc]
      refine tcall_pure (c_cost_reads e.args[n]) ?_
      simp -dsimp [go_sem, hN, hw]
      exact ⟨hc, _, hI, (Wk.mk (by simp [hh]) (by simp [go_sem]) (by simp [hu, hUnder_ext hu, go_sem]) (by simp [go_sem]))⟩
    · rw [List.drop_eq_nil_of_le (by omega), rdsL] at hI
      simp -dsimp [go_sem, hN, if_mn]
      rw [hI]
  · simp -dsimp [go_sem, hN]
    have hv : G = 0 := by rw [hG, if_neg (by omega)]
    refine awp_loopA (α := Int) e.args.length (fun n m => rdsL (e.args.drop n) m = rdsL e.args G) (fun n m => ⟨[(1, .ptr h.length 0), (3, I m), (13, .slice (e.args.map Ex.c)), (14, I e.args.length), (15, I n)], h ++ [.cells e.x]⟩) G (by simp) (Wk.mk (by simp [hh]) (by simp [go_sem]) (by simp [hu, hUnder_ext hu, go_sem]) (by simp [go_sem, hv])) ?_
    intro n m hn hI
    have hw := wrapS hn hb.2.1
    simp -dsimp [go_sem, hN]
    refine cnd (fun hc => ?_) (fun hc => ?_) <;> simp at hc
    · rw [drop_next hc, rdsL] at hI
      have hlt : SizeOf.sizeOf e.args[n] < SizeOf.sizeOf e := Ex.arg_lt (List.getElem_mem hc)
      simp -dsimp [go_sem, hN, hc]
      refine tcall_pure (c_cost_reads e.args[n]) ?_
      simp -dsimp [go_sem, hN, hw]
      exact ⟨hc, _, hI, (Wk.mk (by simp [hh]) (by simp [go_sem]) (by simp [hu, hUnder_ext hu, go_sem]) (by simp [go_sem]))⟩
    · rw [List.drop_eq_nil_of_le (by omega), rdsL] at hI
      simp -dsimp [go_sem, hN, if_mn]
      rw [hI]
termination_by SizeOf.sizeOf e
mutual
theorem c_cost_statement (t : St) : APure Tryz.prog 116 [.agg t.x] (.agg (cntS t).c) := by
  refine apure_introB Tryz.func116 rfl (by kernel_rfl) (by simp [Tryz.ntmps116]) rfl ?_
  intro E h hN hh hu hb
  rw [Tryz.ntmps116] at hN
  refine awp_of_wpC _ _ _ ?_
  have lt1 := St.body_le t
  have lt2 := St.els_le t
  rw [cntS_eq]
  simp -dsimp [go_sem, hN]
  refine cnd (fun h8 => ?_) (fun h8 => ?_) <;> simp at h8
  · simp -dsimp [go_sem, hN]
    refine tcall_pure (c_cost_reads t.a) ?_
    simp -dsimp [go_sem, hN]
    refine cnd (fun h3 => ?_) (fun h3 => ?_) <;> simp at h3 <;> simp -dsimp [go_sem, hN]
    · refine awp_drawQ 5 mixed (by kernel_rfl) (by kernel_rfl) ?_
      simp -dsimp [go_sem, hN]
      refine tdcall (c_cost_reads t.b) (by simp) ?_
      simp -dsimp [go_sem, hN, if_mn]
      simp [cnt0, h3]
    refine cnd (fun h4 => ?_) (fun h4 => ?_) <;> simp at h4 <;> simp -dsimp [go_sem, hN]
    · simp [cnt0, h4]
    refine cnd (fun h7 => ?_) (fun h7 => ?_) <;> simp at h7 <;> simp -dsimp [go_sem, hN]
    · simp [cnt0, h7]
    refine cnd (fun h5 => ?_) (fun h5 => ?_) <;> simp at h5 <;> simp -dsimp [go_sem, hN]
    · refine awp_drawQ 8 mixed (by kernel_rfl) (by kernel_rfl) ?_
      simp -dsimp [go_sem, hN]
      refine tdcall (c_cost_block t.body) (by simp) ?_
      simp -dsimp [go_sem, hN]
      refine tdcall (c_cost_block t.els) (by simp) ?_
      simp -dsimp [go_sem, hN]
      refine tdcall (c_cost_larger (cntB t.body) (cntB t.els)) (by simp) ?_
      simp -dsimp [go_sem, hN]
      refine tcall_pure (c_cost_plus ⟨1, rdsE t.a, 0, 0⟩ ((cntB t.body).larger (cntB t.els))) ?_
      simp -dsimp [go_sem, hN]
      rw [if_pos h5]
      simp [cnt0, h5]
    refine cnd (fun h6 => ?_) (fun h6 => ?_) <;> simp at h6 <;> simp -dsimp [go_sem, hN]
    · refine awp_drawQ 5 mixed (by kernel_rfl) (by kernel_rfl) ?_
      simp -dsimp [go_sem, hN]
      refine tdcall (c_cost_reads t.b) (by simp) ?_
      simp -dsimp [go_sem, hN, if_mn]
      refine awp_drawQ 7 mixed (by kernel_rfl) (by kernel_rfl) ?_
      simp -dsimp [go_sem, hN]
      refine tdcall (c_cost_block t.body) (by simp) ?_
      simp -dsimp [go_sem, hN]
      refine tdcall (c_cost_times (cntB t.body) t.max) (by simp) ?_
      simp -dsimp [go_sem, hN]
      refine tcall_pure (c_cost_plus ⟨W64 (1 + t.max), mn (W64 (rdsE t.a + rdsE t.b)) 16385, 0, 0⟩ ((cntB t.body).times t.max)) ?_
      simp -dsimp [go_sem, hN]
      rw [if_neg (by omega), if_pos h6]
      simp [cnt0, h6]
    rw [if_neg h5, if_neg h6]
    simp [cnt0, h3, h4, h5, h6, h7, h8]
  · simp -dsimp [go_sem, hN]
    refine cnd (fun h3 => by simp at h3; omega) (fun h3 => ?_)
    simp at h3
    simp -dsimp [go_sem, hN]
    refine cnd (fun h4 => by simp at h4; omega) (fun h4 => ?_)
    simp at h4
    simp -dsimp [go_sem, hN]
    refine cnd (fun h7 => by simp at h7; omega) (fun h7 => ?_)
    simp at h7
    simp -dsimp [go_sem, hN]
    refine cnd (fun h5 => by simp at h5; omega) (fun h5 => ?_)
    simp at h5
    simp -dsimp [go_sem, hN]
    refine cnd (fun h6 => by simp at h6; omega) (fun h6 => ?_)
    simp at h6
    simp -dsimp [go_sem, hN]
    rw [if_neg h5, if_neg h6]
    simp [cnt0, h3, h4, h5, h6, h7, h8]
termination_by SizeOf.sizeOf t
theorem c_cost_block (l : List St) : APure Tryz.prog 71 [.slice (l.map St.c)] (.agg (cntB l).c) := by
  refine apure_introB Tryz.func71 rfl (by kernel_rfl) (by simp [Tryz.ntmps71]) rfl ?_
  intro E h hN hh hu hb
  rw [Tryz.ntmps71] at hN
  refine awp_of_wpC _ _ _ ?_
  simp [go_sem] at hb
  simp -dsimp [go_sem, hN]
  refine awp_loopA (α := Cnt) l.length (fun n c => cntL (l.drop n) c = cntB l) (fun n c => ⟨[(2, .ptr h.length 0), (3, .ptr (h.length + 1) 0), (6, .slice (l.map St.c)), (7, I l.length), (8, I n)], h ++ [.cells [I 0, I 0, I 0, I 0], .cells c.c]⟩) ⟨0, 0, 0, 0⟩ (by simp) (Wk.mk (by simp [hh]) (by simp [go_sem]) (by simp [hu, hUnder_ext hu, go_sem]) (by simp [go_sem, Cnt.c])) ?_
  intro n c hn hI
  have hw := wrapS hn hb.1
  simp -dsimp [go_sem, hN]
  refine cnd (fun hc => ?_) (fun hc => ?_) <;> simp at hc
  · rw [drop_next hc, cntL] at hI
    have hlt : SizeOf.sizeOf l[n] < SizeOf.sizeOf l := List.sizeOf_lt_of_mem (List.getElem_mem hc)
    simp -dsimp [go_sem, hN, hc]
    refine awp_drawQ 3 mixed (by kernel_rfl) (by kernel_rfl) ?_
    simp -dsimp [go_sem, hN, hc]
    refine tdcall (c_cost_statement l[n]) (by simp) ?_
    simp -dsimp [go_sem, hN, hc]
    refine tcall_pure (c_cost_plus c (cntS l[n])) ?_
    simp -dsimp [go_sem, hN, hc, hw]
    exact ⟨_, hI, (Wk.mk (by simp [hh]) (by simp [go_sem]) (by simp [hu, hUnder_ext hu, go_sem]) (by simp [go_sem]))⟩
  · rw [List.drop_eq_nil_of_le (by omega), cntL] at hI
    simp -dsimp [go_sem, hN]
    subst hI
    simp [Cnt.c]
termination_by SizeOf.sizeOf l
end
end Go.Proofs.YtcmbmfmpelnimaaGreatDoor

set_option maxRecDepth 4000
namespace Go.Proofs.YtcmbmfmpelnimaaGreatDoor
open Go Go.Abs Go.Cw
theorem c_visit {l : Nat} {HF : Nat → AHeap} {HX : Nat → Ex → AHeap} {stop : Ex → Bool} {n0 : Nat} (Y : YH Tryz.prog l HF HX stop n0) (e : Ex) (k : Nat) :
    ACalls Tryz.prog 218 [.agg e.x, .fn (.yield l) [] []] (HF k) fun r h' => r = .ret (Bo (scan stop (preE e) k).2.isNone) ∧ h' = finY HF HX (scan stop (preE e) k) := by
  refine acalls_introI Tryz.func218 rfl (by kernel_rfl) (by simp [Tryz.ntmps218]) ?_
  intro E hN hh hu hb hb' hua
  rw [Tryz.ntmps218] at hN
  simp [go_sem] at hb
  have y0 : ∀ (k : Nat) (x : AObj) (L : AHeap), (HF k ++ x :: L)[n0]? = some x := fun k x L => by
    rw [List.getElem?_append_right (by rw [Y.len]; omega), Y.len, Nat.sub_self]; rfl
  have y1 : ∀ (k : Nat) (z : Ex) (x : AObj) (L : AHeap), (HX k z ++ x :: L)[n0]? = some x := fun k z x L => by
    rw [List.getElem?_append_right (by rw [Y.lenX]; omega), Y.lenX, Nat.sub_self]; rfl
  refine awpI_seq (awpI_of_wpCI _ _ _ _ ?_)
  simp -dsimp [go_sem, hN, Y.len, y0]
  refine awpI_seq (awpI_seq (awpI_opsY (by kernel_rfl) ?_))
  simp -dsimp [go_sem, hN, Y.len, y0]
  have hfin : ∀ (r : Nat × Option Ex), (finY HF HX r).length = n0 := fun r => by
    unfold finY; split
    · exact Y.len _
    · exact Y.lenX _ _
  have hfu : ∀ (r : Nat × Option Ex), hUnder (finY HF HX r).length (finY HF HX r) = true := fun r => by
    rw [hfin]; unfold finY; split
    · exact Y.und _
    · exact Y.undX _ _
  refine (Y.y k e _).mono ?_
  rintro r h' ⟨hst, hsf⟩
  rw [scan_pre]
  cases hs : stop e with
  | true =>
    obtain ⟨rfl, rfl⟩ := hst hs
    simp -dsimp [go_sem, hN]
    refine awpI_of_awp (awp_of_wpC _ _ _ ?_)
    simp -dsimp [go_sem, hN]
    refine ⟨[], rfl, List.nodup_nil, by simp, ?_⟩
    simp -dsimp [go_sem, hN, takeAll]
    exact ⟨_, .refl _, HX k e, rfl, by simp, by simp [Y.len, Y.lenX], by rw [Y.lenX]; exact Y.undX _ _, by simp, by simp [finY]⟩
  | false =>
    obtain ⟨rfl, rfl⟩ := hsf hs
    simp -dsimp [go_sem, hN]
    refine awpI_of_awp (awp_of_wpC _ _ _ ?_)
    simp -dsimp [go_sem, hN]
    refine awpI_of_awp (awp_of_wpC _ _ _ ?_)
    simp -dsimp [go_sem, hN, Y.len, y0]
    refine awp_loopA (α := Nat) e.args.length (fun n m => scan stop (preL (e.args.drop n)) m = scan stop (preL e.args) (k + 1)) (fun n m => ⟨[(1, .fn (.yield l) [] []), (12, .slice (e.args.map Ex.c)), (13, I e.args.length), (14, I n)], HF m⟩) (k + 1) (by simp) (Wk.mk (by simp [hh, Y.len]) (by simp [go_sem]) (by rw [Y.len]; exact Y.und _) (by simp [go_sem])) ?_
    intro n m hn hI
    have hw := wrapS hn hb.2.1
    simp -dsimp [go_sem, hN]
    refine cnd (fun hc => ?_) (fun hc => ?_) <;> simp at hc
    · rw [drop_next hc, scan_preL] at hI
      have hlt : SizeOf.sizeOf e.args[n] < SizeOf.sizeOf e := Ex.arg_lt (List.getElem_mem hc)
      simp -dsimp [go_sem, hN, hc, Y.len, y0]
      refine tcall (c_visit (Y.ext [.cells e.args[n].x] (by simp [go_sem])) e.args[n] m) ?_
      rintro r h' ⟨rfl, rfl⟩
      rcases hq : scan stop (preE e.args[n]) m with ⟨m', _ | y⟩
      · rw [hq] at hI
        simp -dsimp [go_sem, hN, hw, finY]
        exact ⟨hc, _, hI, Wk.mk (by simp [hh, Y.len]) (by simp [go_sem]) (by rw [Y.len]; exact Y.und _) (by simp [go_sem])⟩
      · rw [hq] at hI
        simp only at hI
        simp -dsimp [go_sem, hN, finY]
        refine ⟨[], rfl, List.nodup_nil, by simp, ?_⟩
        rw [← hI]
        simp -dsimp [go_sem, hN, takeAll, finY]
        exact ⟨_, .refl _, HX m' y, rfl, by simp, by simp [Y.len, Y.lenX], by rw [Y.lenX]; exact Y.undX _ _, rfl, rfl⟩
    · rw [List.drop_eq_nil_of_le (by omega), preL, scan] at hI
      simp -dsimp [go_sem, hN]
      refine ⟨[], rfl, List.nodup_nil, by simp, ?_⟩
      rw [← hI]
      simp -dsimp [go_sem, hN, takeAll, finY]
      exact ⟨_, .refl _, HF m, rfl, by simp, by simp [Y.len], by rw [Y.len]; exact Y.und _, rfl, rfl⟩
termination_by SizeOf.sizeOf e
theorem c_nodes1 {l : Nat} {HF : Nat → AHeap} {HX : Nat → Ex → AHeap} {stop : Ex → Bool} {n0 : Nat} (Y : YH Tryz.prog l HF HX stop n0) (e : Ex) (k i : Nat) (hi : (HF k)[i]? = some (.cells e.x)) :
    ACalls Tryz.prog 217 [.fn (.yield l) [] [], .ptr i 0] (HF k) fun r h' => r = .ret (.tuple []) ∧ h' = finY HF HX (scan stop (preE e) k) := by
  refine acalls_introB Tryz.func217 rfl (by kernel_rfl) (by simp [Tryz.ntmps217]) ?_
  intro E hN hh hu hb hb' hua
  rw [Tryz.ntmps217] at hN
  refine awp_of_wpC _ _ _ ?_
  simp -dsimp [go_sem, hN, hi]
  refine tcall (c_visit Y e k) ?_
  rintro r h' ⟨rfl, rfl⟩
  simp -dsimp [go_sem, hN]
  refine ⟨_, .refl _, finY HF HX (scan stop (preE e) k), rfl, hwk.refl _, ?_, ?_, rfl, rfl⟩
  · unfold finY; split <;> simp [Y.len, Y.lenX]
  · unfold finY; split
    · rw [Y.len]; exact Y.und _
    · rw [Y.lenX]; exact Y.undX _ _
theorem nilF : liftK Value.nilFunc = .val .nilFunc := rfl
theorem c_nodes (e : Ex) (h : AHeap) : ACalls Tryz.prog 157 [.agg e.x] h fun r h' => r = .ret (.fn (.func 217) [] [.ptr h.length 0]) ∧ h' = h ++ [.cells e.x] := by
  refine acalls_introB Tryz.func157 rfl (by kernel_rfl) (by simp [Tryz.ntmps157]) ?_
  intro E hN hh hu hb hb' hua
  rw [Tryz.ntmps157] at hN
  refine awp_of_wpC _ _ _ ?_
  simp -dsimp [go_sem, hN, nilF]
  exact ⟨_, .refl _, _, by simp [AV.under, underL], hwk.refl _, by simp, by rw [List.length_append, hUnder_ext hu]; simp [go_sem], rfl, rfl⟩
theorem c_First (p : Proc) (h : AHeap) : ACalls Tryz.prog 114 [.agg p.c] h fun r h' => r = .ret (.tuple [I (firstP p).1, I (IntKind.i64.wrap (firstP p).2.1), Bo (firstP p).2.2]) ∧ h' = h := by
  refine acalls_introI Tryz.func114 rfl (by kernel_rfl) (by simp [Tryz.ntmps114]) ?_
  intro E hN hh hu hb hb' hua
  rw [Tryz.ntmps114] at hN
  simp [go_sem] at hb
  refine awpI_of_wpCI _ _ _ _ ?_
  simp -dsimp [go_sem, hN]
  refine tcall_pure (c_ast_Validate p) ?_
  simp -dsimp [go_sem, hN]
  refine cnd (fun h0 => ?_) (fun h0 => ?_) <;> simp at h0
  · simp -dsimp [go_sem, hN]
    refine ⟨[], rfl, List.nodup_nil, by simp, ?_⟩
    simp -dsimp [go_sem, hN, takeAll]
    rw [firstP, if_pos h0]
    exact ⟨_, .refl _, h, by simp [go_sem], by simp [go_sem], by simp, by simp [hu, go_sem], rfl, rfl⟩
  rw [firstP, if_neg (by simpa using h0)]
  have hxl : (exprsP p).length ≤ 401 := by
    have := blkW_K keepS exprR List.length (fun s _ _ => by simp [keepS]) (fun s _ => by simp [exprR]) p.body 1 (401, [])
    simp only [List.length_nil] at this
    unfold exprsP
    omega
  simp -dsimp [go_sem, hN]
  refine tcall_pure (c_ast_Exprs p) ?_
  simp -dsimp [go_sem, hN]
  obtain ⟨T, hT⟩ : ∃ T : AV → AV → AV → AV → AHeap, T = fun a b d f => h ++ [.cells p.c, .cells [a], .cells [b], .cells [d], .cells [f]] := ⟨_, rfl⟩
  have hTl : ∀ a b d f, (T a b d f).length = h.length + 5 := fun a b d f => by rw [hT]; simp
  have g1 : ∀ a b d f (Z : AHeap), (T a b d f ++ Z)[h.length + 1]? = some (.cells [a]) := fun a b d f Z => by rw [hT]; simp
  have g2 : ∀ a b d f (Z : AHeap), (T a b d f ++ Z)[h.length + 2]? = some (.cells [b]) := fun a b d f Z => by rw [hT]; simp
  have g3 : ∀ a b d f (Z : AHeap), (T a b d f ++ Z)[h.length + 3]? = some (.cells [d]) := fun a b d f Z => by rw [hT]; simp
  have g4 : ∀ a b d f (Z : AHeap), (T a b d f ++ Z)[h.length + 4]? = some (.cells [f]) := fun a b d f Z => by rw [hT]; simp
  have s1 : ∀ a b d f a' (Z : AHeap), (T a b d f ++ Z).set (h.length + 1) (.cells [a']) = T a' b d f ++ Z := fun a b d f a' Z => by rw [hT]; simp
  have s2 : ∀ a b d f a' (Z : AHeap), (T a b d f ++ Z).set (h.length + 2) (.cells [a']) = T a a' d f ++ Z := fun a b d f a' Z => by rw [hT]; simp
  have s3 : ∀ a b d f a' (Z : AHeap), (T a b d f ++ Z).set (h.length + 3) (.cells [a']) = T a b a' f ++ Z := fun a b d f a' Z => by rw [hT]; simp
  have s4 : ∀ a b d f a' (Z : AHeap), (T a b d f ++ Z).set (h.length + 4) (.cells [a']) = T a b d a' ++ Z := fun a b d f a' Z => by rw [hT]; simp
  have hTu : ∀ (a b : Int) (d : Bool) (f : Int), hUnder (h.length + 5) (T (I a) (I b) (Bo d) (I f)) = true := fun a b d f => by rw [hT, hUnder_ext hu]; simp [go_sem]
  obtain ⟨B, hB⟩ : ∃ B : Nat → AHeap, B = fun (k : Nat) => T (I 0) (I 0) (Bo false) (I (IntKind.i64.wrap (k : Int))) := ⟨_, rfl⟩
  have hBl : ∀ k, (B k).length = h.length + 5 := fun k => by rw [hB, hTl]
  have hBu : ∀ k, hUnder (h.length + 5) (B k) = true := fun k => by rw [hB, hT, hUnder_ext hu]; simp [go_sem]
  refine awpI_loop (ι := Nat × Nat × List (Option Nat)) (fun i => i.1 ≤ (exprsP p).length ∧ scan (fun e => nonDet e.op) (preL ((exprsP p).drop i.1)) i.2.1 = scan (fun e => nonDet e.op) (preL (exprsP p)) 0)
    (fun i => (dM i.2.2, ⟨[(2, .ptr (h.length + 1) 0), (3, .ptr (h.length + 2) 0), (4, .ptr (h.length + 3) 0), (5, .ptr (h.length + 4) 0), (13, .slice ((exprsP p).map Ex.c)), (14, I (exprsP p).length), (15, I i.1)], B i.2.1 ++ gM i.2.2⟩)) (fun i => (exprsP p).length - i.1) (0, 0, []) ⟨by simp, by simp⟩ rfl ?_ ?_
  · simp only [gM, List.map_nil, List.append_nil, hB, hT]
    exact (Wk.mk (by simp [hh]) (by simp [go_sem]) (by simp [hu, hUnder_ext hu, go_sem]) (by simp [go_sem]))
  rintro ⟨n, k, ms⟩ ⟨hn, hI⟩
  simp only at hn hI
  have hw := wrapS hn (by omega)
  refine awpI_of_wpCI _ _ _ _ ?_
  simp -dsimp [go_sem, hN]
  refine cnd (fun hc => ?_) (fun hc => ?_) <;> simp at hc
  · rw [drop_next hc, scan_preL] at hI
    simp -dsimp [go_sem, hN, hc]
    refine tcall (c_nodes (exprsP p)[n] _) ?_
    rintro r h' ⟨rfl, rfl⟩
    simp -dsimp [go_sem, hN]
    have hBu' : ∀ k L m, hUnder (h.length + 5 + m) L = true → hUnder (h.length + 5 + m) (B k ++ L) = true := fun k L m hL => by
      rw [hUnder_app, hUnder_mono (by omega) (hBu k), hL]; rfl
    have hgu := gM_und
    obtain ⟨G, hG⟩ : ∃ G : AHeap, G = gM ms ++ [.cells (exprsP p)[n].x, .cells (exprsP p)[n].x] := ⟨_, rfl⟩
    have hGu : ∀ m, hUnder m G = true := fun m => by
      rw [hG, hUnder_app, hgu]; simp [go_sem]
    obtain ⟨X, hX⟩ : ∃ X : Nat → Ex → AHeap, X = fun (j : Nat) (x : Ex) => T (I x.op) (I (IntKind.i64.wrap (j : Int))) (Bo true) (I (IntKind.i64.wrap (j : Int))) := ⟨_, rfl⟩
    have hXl : ∀ j x, (X j x).length = h.length + 5 := fun j x => by rw [hX, hTl]
    have hXu : ∀ j x, hUnder (h.length + 5) (X j x) = true := fun j x => by rw [hX, hT, hUnder_ext hu]; simp [go_sem]
    refine awpI_wk (e1 := ⟨[(2, .ptr (h.length + 1) 0), (3, .ptr (h.length + 2) 0), (4, .ptr (h.length + 3) 0), (5, .ptr (h.length + 4) 0), (13, .slice ((exprsP p).map Ex.c)), (14, I (exprsP p).length), (15, I n), (20, .fn (.func 217) [] [.ptr (h.length + 5 + (gM ms).length + 1) 0])], B k ++ G⟩) (Wk.mk (by simp [hh, hBl]; omega) (by rw [hG]; exact hwk.refl _) (by rw [List.length_append, hBl]; exact hBu' _ _ _ (hGu _)) (by rw [hG]; simp [go_sem, hBl, Nat.add_assoc]; try omega)) ?_
    have hGl : G.length = (gM ms).length + 2 := by rw [hG]; simp
    refine awpI_rangeY (gf := 217) (caps := [.ptr (h.length + 5 + (gM ms).length + 1) 0]) rfl (fun H => rfl) (fun j => B j ++ G) (fun j x => X j x ++ G) (fun e => nonDet e.op) (preE (exprsP p)[n]) k (h.length + 5 + G.length) rfl
      (fun j => by rw [List.length_append, hBl]) (fun j x => by rw [List.length_append, hXl]) (fun j => hBu' _ _ _ (hGu _)) (fun j x => by rw [hUnder_app, hUnder_mono (by omega) (hXu j x), hGu]; rfl) ?_ (by rw [hN]; decide) ?_ ?_ ?_ ?_
    · rw [hN, hGl]
      simp [slots, List.range, List.range.loop, go_sem]
      omega
    · intro l L HX n1 Y
      refine c_nodes1 Y (exprsP p)[n] k _ ?_
      rw [List.append_assoc, List.getElem?_append_right (by rw [hBl]; omega), hBl, hG, show h.length + 5 + (gM ms).length + 1 - (h.length + 5) = (gM ms).length + 1 by omega, List.append_assoc, List.getElem?_append_right (by omega), show (gM ms).length + 1 - (gM ms).length = 1 by omega]
      rfl
    · intro E' l D j x L r0 rb rd hr hN' hh' hu' hbd
      rw [hN] at hN'
      have n0l : ∀ a b d f (M : AHeap) (o o' : AObj), (T a b d f ++ (G ++ o :: o' :: M))[h.length + 5 + G.length + 1]? = some o' := fun a b d f M o o' => by
        rw [← List.append_assoc, List.getElem?_append_right (by rw [List.length_append, hTl]; omega), List.length_append, hTl, show h.length + 5 + G.length + 1 - (h.length + 5 + G.length) = 1 by omega]; rfl
      have n0s : ∀ a b d f (M : AHeap) (o o' y : AObj), (T a b d f ++ (G ++ o :: o' :: M)).set (h.length + 5 + G.length + 1) y = T a b d f ++ (G ++ o :: y :: M) := fun a b d f M o o' y => by
        rw [← List.append_assoc, List.set_append_right _ _ (by rw [List.length_append, hTl]; omega), List.length_append, hTl, show h.length + 5 + G.length + 1 - (h.length + 5 + G.length) = 1 by omega, List.append_assoc]; rfl
      have zl : ∀ a b d f (o o' y : AObj), (T a b d f ++ (G ++ o :: o' :: (L ++ [y])))[h.length + 5 + (G.length + (L.length + 1 + 1))]? = some y := fun a b d f o o' y => by
        rw [← List.append_assoc, List.getElem?_append_right (by rw [List.length_append, hTl]; omega), List.length_append, hTl, show h.length + 5 + (G.length + (L.length + 1 + 1)) - (h.length + 5 + G.length) = L.length + 2 by omega]
        simp
      have zs : ∀ a b d f (o o' y z : AObj), (T a b d f ++ (G ++ o :: o' :: (L ++ [y]))).set (h.length + 5 + (G.length + (L.length + 1 + 1))) z = T a b d f ++ (G ++ o :: o' :: (L ++ [z])) := fun a b d f o o' y z => by
        rw [← List.append_assoc, List.set_append_right _ _ (by rw [List.length_append, hTl]; omega), List.length_append, hTl, show h.length + 5 + (G.length + (L.length + 1 + 1)) - (h.length + 5 + G.length) = L.length + 2 by omega, List.append_assoc]
        simp
      have hEl : E'.h.length = h.length + 5 + G.length + 2 + L.length := by rw [hh']; simp [hBl]; omega
      have hLu : hUnder (h.length + 5 + G.length + 2 + L.length) L = true := by
        rw [hEl, hh', hUnder_app, Bool.and_eq_true] at hu'
        have := hu'.2
        simp only [hUnder, Bool.and_eq_true] at this
        exact this.2.2
      have fin : ∀ (a b : Int) (d : Bool) (f : Int) (r : AObj), r.under (h.length + 5 + G.length + 2 + L.length) = true → Wk E' ⟨[], T (I a) (I b) (Bo d) (I f) ++ (G ++ markO D :: r :: (L ++ [.cells x.x]))⟩ ⟨[], T (I a) (I b) (Bo d) (I f) ++ (G ++ markO D :: r :: L)⟩ := fun a b d f r hru => by
        refine Wk.mk ?_ ?_ ?_ trivial
        · rw [hEl]; simp [hTl]; omega
        · exact hwk_app.2 (hwk_app.2 ⟨.refl _, .refl _, hwk.app0 _⟩)
        · have e1 : (T (I a) (I b) (Bo d) (I f) ++ (G ++ markO D :: r :: L)).length = h.length + 5 + G.length + 2 + L.length := by simp [hTl]; omega
          show hUnder (T (I a) (I b) (Bo d) (I f) ++ (G ++ markO D :: r :: L)).length _ = true
          rw [e1, hUnder_app, hUnder_mono (by omega) (hTu a b d f), hUnder_app, hGu]
          have hm0 : (markO D).under (h.length + 5 + G.length + 2 + L.length) = true := rfl
          simp only [hUnder, hru, hLu, hm0, Bool.and_true]
      have hrm := hr (h.length + 5 + G.length + 2 + L.length) (by omega)
      rw [hh', hN]
      simp only [hB, hX, List.append_assoc]
      refine awpI_of_wpCI _ _ _ _ ?_
      simp -dsimp [slots, List.range, List.range.loop, go_sem, hN', hTl, zl, zs, n0l, n0s]
      refine awpI_of_wpCI _ _ _ _ ?_
      simp -dsimp [go_sem, hN', hTl, zl]
      refine tcall_pure (c_nondeterministic x.op) ?_
      simp -dsimp [go_sem, hN', hTl, zl]
      refine cnd (fun hx => ?_) (fun hx => ?_)
      · simp -dsimp [go_sem, hN', hTl, zl]
        refine awpI_drawG 4 mixed (by kernel_rfl) (by kernel_rfl) ?_
        simp -dsimp [go_sem, hN', hTl, zl, g1, g2, g3, g4, s1, s2, s3]
        refine ⟨by simp [sepD, List.zipIdx]; omega, ?_⟩
        refine ⟨n0l _ _ _ _ _ _ _, T (I x.op) (I (IntKind.i64.wrap (j : Int))) (Bo true) (I (IntKind.i64.wrap (j : Int))) ++ (G ++ markO D :: rd :: L), ?_, fun _ => ⟨rfl, rfl⟩, fun hh => by rw [hx] at hh; cases hh⟩
        rw [n0s]
        exact fin _ _ _ _ _ hrm.2.2
      · simp -dsimp [go_sem, hN', hTl, zl, g4, s4]
        rw [W64_succ]
        refine ⟨n0l _ _ _ _ _ _ _, T (I 0) (I 0) (Bo false) (I (IntKind.i64.wrap ((j : Int) + 1))) ++ (G ++ markO D :: r0 :: L), ?_, fun hh => (by rw [hx] at hh; cases hh), fun _ => ⟨rfl, by simp⟩⟩
        rw [n0s]
        exact fin _ _ _ _ _ hrm.1
    · intro j D o hs
      rw [hs] at hI
      simp only at hI
      simp -dsimp [go_sem, hN, hw]
      refine ⟨n + 1, j, ⟨by omega, hI⟩, by omega, ms ++ [none, none, some D], (dM_snoc ms D).symm, Wk.mk (by simp [hh, hBl]; omega) ?_ ?_ (by simp [go_sem, hBl]; try omega)⟩
      · rw [hG, gM_app, List.append_assoc]
        exact hwk_app.2 (hwk_app.2 ⟨trivial, trivial, .refl _, trivial⟩)
      · rw [List.length_append, hBl, hUnder_app, hUnder_mono (by omega) (hBu j), gM_und]; rfl
    · intro j x D o hs
      rw [hs] at hI
      simp only at hI
      simp -dsimp [go_sem, hN]
      refine ⟨(h.length + 5 + ms.length + 2, D) :: idxM (h.length + 5) ms, by rw [List.map_cons, idxM_coll], ?_, ?_, ?_⟩
      · rw [List.map_cons, List.nodup_cons]
        refine ⟨fun hm => ?_, idxM_nodup _ _⟩
        rw [List.mem_map] at hm
        obtain ⟨q, hq, he⟩ := hm
        have := idxM_ge _ _ q hq
        omega
      · intro q hq
        show (X j x ++ (G ++ [markO D, o]))[q.1]? = _
        rcases List.mem_cons.1 hq with rfl | hq
        · rw [List.getElem?_append_right (by rw [hXl]; simp only; omega), hXl, hG, List.append_assoc, List.getElem?_append_right (by simp [gM]; omega)]
          simp only [gM, List.length_map]
          rw [show h.length + 5 + ms.length + 2 - (h.length + 5) - ms.length = 2 by omega]
          rfl
        · obtain ⟨q1, q2, q3⟩ := idxM_ge _ _ q hq
          rw [List.getElem?_append_right (by rw [hXl]; exact q1), hXl, hG, List.append_assoc, List.getElem?_append_left (by simp [gM]; omega)]
          exact q3
      · obtain ⟨Z', hZ⟩ := takeA ((h.length + 5 + ms.length + 2, D) :: idxM (h.length + 5) ms) (X j x) (G ++ [markO D, o]) (fun q hq => by
          rw [hXl]
          rcases List.mem_cons.1 hq with rfl | hq
          · simp only; omega
          · exact (idxM_ge _ _ q hq).1)
        show RetOk _ _ _ _ ⟨_, takeAll ((h.length + 5 + ms.length + 2, D) :: idxM (h.length + 5) ms) (X j x ++ (G ++ [markO D, o]))⟩
        rw [hZ, hX]
        have hf := firstN_scan (preL (exprsP p)) 0
        rw [← hI] at hf
        simp only at hf
        rw [show ((0 : Nat) : Int) = 0 from rfl] at hf
        rw [hf]
        simp -dsimp [go_sem, hN, g1, g2, g3]
        exact ⟨_, .refl _, h, rfl, by rw [hT, List.append_assoc]; exact hwk.app0 _, by simp, hu, rfl, rfl⟩
  · rw [List.drop_eq_nil_of_le (by omega), preL, scan] at hI
    simp -dsimp [go_sem, hN, hB, g1, g2, g3, s1, s2, s3]
    refine ⟨idxM (h.length + 5) ms, (idxM_coll _ _).symm, idxM_nodup _ _, ?_, ?_⟩
    · intro q hq
      obtain ⟨q1, q2, q3⟩ := idxM_ge _ _ q hq
      show (T _ _ _ _ ++ gM ms)[q.1]? = _
      rw [List.getElem?_append_right (by rw [hTl]; exact q1), hTl]
      exact q3
    · obtain ⟨Z', hZ⟩ := takeA (idxM (h.length + 5) ms) (T (I 0) (I 0) (Bo false) (I (IntKind.i64.wrap (k : Int)))) (gM ms) (fun q hq => by
        rw [hTl]
        exact (idxM_ge _ _ q hq).1)
      show RetOk _ _ _ _ ⟨_, takeAll (idxM (h.length + 5) ms) (T (I 0) (I 0) (Bo false) (I (IntKind.i64.wrap (k : Int))) ++ gM ms)⟩
      rw [hZ]
      have hf := firstN_scan (preL (exprsP p)) 0
      rw [← hI] at hf
      simp only at hf
      rw [show ((0 : Nat) : Int) = 0 from rfl] at hf
      rw [hf]
      simp -dsimp [go_sem, hN, g1, g2, g3]
      exact ⟨_, .refl _, h, rfl, by rw [hT, List.append_assoc]; exact hwk.app0 _, by simp, hu, rfl, rfl⟩
theorem c_determinism_Check (p : Proc) : APure Tryz.prog 70 [.agg p.c] (I (detErr p)) := by
  refine apure_introB Tryz.func70 rfl (by kernel_rfl) (by simp [Tryz.ntmps70]) rfl ?_
  intro E h hN hh hu hb
  rw [Tryz.ntmps70] at hN
  refine awp_of_wpC _ _ _ ?_
  simp -dsimp [go_sem, hN]
  refine tcall_pure (c_types_Check p) ?_
  simp -dsimp [go_sem, hN]
  refine cnd (fun h0 => ?_) (fun h0 => ?_) <;> simp at h0
  · simp -dsimp [go_sem, hN]
    rw [detErr, if_pos h0]
  simp -dsimp [go_sem, hN]
  refine tcall (c_First p _) ?_
  rintro r h' ⟨rfl, rfl⟩
  simp -dsimp [go_sem, hN]
  refine cnd (fun h1 => ?_) (fun h1 => ?_)
  · simp -dsimp [go_sem, hN]
    rw [detErr, if_neg (by simpa using h0), if_pos h1]
  · simp -dsimp [go_sem, hN]
    rw [detErr, if_neg (by simpa using h0), if_neg (by rw [h1]; simp)]
end Go.Proofs.YtcmbmfmpelnimaaGreatDoor

set_option maxRecDepth 4000
set_option maxHeartbeats 1000000
namespace Go.Proofs.YtcmbmfmpelnimaaGreatDoor
open Go Go.Abs Go.Cw
attribute [local go_sem] Cnt.c
theorem c_cost_Check (p : Proc) : APure Tryz.prog 29 [.agg p.c] (I (costErr p)) := by
  refine apure_introB Tryz.func29 rfl (by kernel_rfl) (by simp [Tryz.ntmps29]) rfl ?_
  intro E h hN hh hu hb
  rw [Tryz.ntmps29] at hN
  refine awp_of_wpC _ _ _ ?_
  rw [costErr]
  simp -dsimp [go_sem, hN]
  refine tcall_pure (c_determinism_Check p) ?_
  simp -dsimp [go_sem, hN]
  refine cnd (fun h0 => ?_) (fun h0 => ?_) <;> simp at h0
  · simp -dsimp [go_sem, hN]
    exact fun k => absurd k h0
  rw [if_neg (by simpa using h0)]
  simp -dsimp [go_sem, hN]
  refine tcall_pure (c_cost_block p.body) ?_
  simp -dsimp [go_sem, hN]
  refine cnd (fun h1 => ?_) (fun h1 => ?_) <;> simp at h1
  · simp -dsimp [go_sem, hN]
    exact fun k => absurd k (by omega)
  rw [if_neg (by omega)]
  simp -dsimp [go_sem, hN]
  refine cnd (fun h2 => ?_) (fun h2 => ?_) <;> simp at h2
  · simp -dsimp [go_sem, hN]
    refine cnd (fun _ => ?_) (fun k => by simp at k; omega)
    simp -dsimp [go_sem, hN]
    exact fun _ => (by omega)
  simp -dsimp [go_sem, hN]
  refine cnd (fun h3 => ?_) (fun h3 => ?_) <;> simp at h3
  · simp -dsimp [go_sem, hN]
    refine cnd (fun _ => ?_) (fun k => by simp at k; omega)
    simp -dsimp [go_sem, hN]
    exact fun _ => (by omega)
  simp -dsimp [go_sem, hN]
  refine cnd (fun h4 => ?_) (fun h4 => ?_) <;> simp at h4
  · simp -dsimp [go_sem, hN]
    exact fun _ => (by omega)
  simp -dsimp [go_sem, hN]
  omega
end Go.Proofs.YtcmbmfmpelnimaaGreatDoor

set_option maxRecDepth 4000
set_option maxHeartbeats 1000000
namespace Go.Proofs.YtcmbmfmpelnimaaGreatDoor
open Go Go.Abs Go.Cw
attribute [local go_sem] mC
variable {C : Cfg} {v o io ir ip : Nat}
theorem c_machine_finish_stop {h : AHeap} {m : Nat} (q : MQ) (hm : h[m]? = some (.cells (mC C v o io ir ip q))) (hir : h[ir]? = some (.arr 9 1 (q.reads.map sRow))) (hip : h[ip]? = some (.arr 9 1 (q.puts.map sRow)))
    (hr : q.nr = q.reads.length) (hp : q.np = q.puts.length) (z : Stop) :
    ACalls Tryz.prog 35 [.ptr m 0, .agg [I z.status, I z.code, .slice [], S z.miss], Bo true] h fun r h' => r = .ret (.agg [I z.status, I z.code, .slice [], .slice (q.reads.map sRow), .slice (q.puts.map sRow), .slice [], S z.miss, I q.steps]) ∧ h' = h := by
  refine acalls_introB Tryz.func35 rfl (by kernel_rfl) (by simp [Tryz.ntmps35]) ?_
  intro E hN hh hu hb hb' hua
  rw [Tryz.ntmps35] at hN
  refine awp_of_wpC _ _ _ ?_
  have lm : m < h.length := (List.getElem?_eq_some_iff.1 hm).1
  have lr : ir < h.length := (List.getElem?_eq_some_iff.1 hir).1
  have lp : ip < h.length := (List.getElem?_eq_some_iff.1 hip).1
  have gm : ∀ l : AHeap, (h ++ l)[m]? = some (.cells (mC C v o io ir ip q)) := fun l => by rw [List.getElem?_append_left lm]; exact hm
  have gr : ∀ l : AHeap, (h ++ l)[ir]? = some (.arr 9 1 (q.reads.map sRow)) := fun l => by rw [List.getElem?_append_left lr]; exact hir
  have gp : ∀ l : AHeap, (h ++ l)[ip]? = some (.arr 9 1 (q.puts.map sRow)) := fun l => by rw [List.getElem?_append_left lp]; exact hip
  simp -dsimp [go_sem, hN, gm]
  refine awp_drawG 6 mixed (by kernel_rfl) ?_
  simp -dsimp [go_sem, hN]
  refine ⟨by simp [sepD, List.zipIdx], ?_⟩
  try simp -dsimp [go_sem, hN]
  refine ⟨_, .refl _, h, by simp [go_sem, gr, gp, hr, hp], hwk.app0 _, Nat.le_refl _, hu, ?_, rfl⟩
  simp [gr, gp, hr, hp]
@[simp] theorem getD_vAV (o : Option V) : (Option.map vAV o).getD (.agg [I 0, I 0, S ⟨#[]⟩]) = .agg (o.getD V.nil).c := by cases o <;> rfl
def wrP (own : List (Bytes × V)) (k : Bytes) : Pr := ⟨k, (kGet own k).getD V.nil⟩
theorem c_machine_finish_ok {h : AHeap} {m : Nat} (q : MQ) (hm : h[m]? = some (.cells (mC C v o io ir ip q))) (hio : h[io]? = some (.arr 47 3 (q.out.map V.c))) (hir : h[ir]? = some (.arr 9 1 (q.reads.map sRow))) (hip : h[ip]? = some (.arr 9 1 (q.puts.map sRow)))
    (ho : h[o]? = some (.map (kAV vAV q.own))) (hn : q.no = q.out.length) (hr : q.nr = q.reads.length) (hp : q.np = q.puts.length) (hl : q.puts.length + 1 ≤ 68719476736) :
    ACalls Tryz.prog 35 [.ptr m 0, .agg [I 0, I 0, .slice [], S em], Bo false] h fun r h' => r = .ret (.agg [I 1, I 0, .slice (q.out.map V.c), .slice (q.reads.map sRow), .slice (q.puts.map sRow), .slice ((q.puts.map (wrP q.own)).map Pr.c), S em, I q.steps]) ∧ h' = h := by
  obtain ⟨qv, qo, qout, qr, qp, qno, qnr, qnp, qs⟩ := q
  simp only at hn hr hp hl
  subst hn; subst hr; subst hp
  simp only at hio hir hip ho
  refine acalls_introB Tryz.func35 rfl (by kernel_rfl) (by simp [Tryz.ntmps35]) ?_
  intro E hN hh hu hb hb' hua
  rw [Tryz.ntmps35] at hN
  refine awp_of_wpC _ _ _ ?_
  have lm : m < h.length := (List.getElem?_eq_some_iff.1 hm).1
  have lo : o < h.length := (List.getElem?_eq_some_iff.1 ho).1
  have lio : io < h.length := (List.getElem?_eq_some_iff.1 hio).1
  have lr : ir < h.length := (List.getElem?_eq_some_iff.1 hir).1
  have lp : ip < h.length := (List.getElem?_eq_some_iff.1 hip).1
  have gm : ∀ l : AHeap, (h ++ l)[m]? = some (.cells (mC C v o io ir ip ⟨qv, qo, qout, qr, qp, qout.length, qr.length, qp.length, qs⟩)) := fun l => by rw [List.getElem?_append_left lm]; exact hm
  have go : ∀ l : AHeap, (h ++ l)[o]? = some (.map (kAV vAV qo)) := fun l => by rw [List.getElem?_append_left lo]; exact ho
  have gi : ∀ l : AHeap, (h ++ l)[io]? = some (.arr 47 3 (qout.map V.c)) := fun l => by rw [List.getElem?_append_left lio]; exact hio
  have gr : ∀ l : AHeap, (h ++ l)[ir]? = some (.arr 9 1 (qr.map sRow)) := fun l => by rw [List.getElem?_append_left lr]; exact hir
  have gp : ∀ l : AHeap, (h ++ l)[ip]? = some (.arr 9 1 (qp.map sRow)) := fun l => by rw [List.getElem?_append_left lp]; exact hip
  simp -dsimp [go_sem, hN, gm, gp]
  refine awp_loopN qp.length (fun n => True) (fun n => ⟨[(0, .ptr m 0), (6, .ptr (h.length + 1) 0), (7, .ptr (h.length + 2) 0), (25, .slice (qp.map sRow)), (26, I qp.length), (27, I n)], h ++ [.cells [I 0, I 0, .slice [], S em], .cells [I 0, I 0, .nils, .nils, .nils, .nils, S em, I 0], .cells [I 1, I 0, .own io qout.length, .own ir qr.length, .own ip qp.length, .own (h.length + 3) n, S em, I qs], .arr 94 4 (((qp.take n).map (wrP qo)).map Pr.c)]⟩) trivial ((nilc_wk E _ (p := h.length + 2) (j := 5) (t := 94) (sz := 4) (xs := [I 1, I 0, .own io qout.length, .own ir qr.length, .own ip qp.length, .nils, S em, I qs]) (by simp) rfl).trans ?_) ?_
  · simp
    exact (norm_wk E _).trans (Wk.mk (by simp [hh]) (by simp [go_sem]) (by simp [hu, hUnder_ext hu, go_sem]; omega) (by simp [go_sem, gp]; omega))
  intro n hn' _
  have hw := wrapS hn' (by omega)
  simp -dsimp [go_sem, hN]
  refine cnd (fun hc => ?_) (fun hc => ?_) <;> simp at hc
  · simp -dsimp [go_sem, hN, hc]
    refine awp_drawQ 11 mixed (by kernel_rfl) (by kernel_rfl) ?_
    simp -dsimp [go_sem, hN, gm, go, hw]
    refine ⟨by omega, by omega, hc, ?_⟩
    rw [show (qp.map (Pr.c ∘ wrP qo)).take (n + 1) = (qp.map (Pr.c ∘ wrP qo)).take n ++ [Pr.c (wrP qo qp[n])] by rw [List.take_succ_eq_append_getElem (by simpa using hc)]; simp]
    exact Wk.mk (by simp [hh]) (by simp [go_sem, wrP]) (by simp [hu, hUnder_ext hu, go_sem]; omega) (by simp [go_sem]; omega)
  · simp -dsimp [go_sem, hN]
    have hnq : n = qp.length := by omega
    subst hnq
    rw [List.take_of_length_le (by simp)]
    refine ⟨_, .refl _, h, by simp [go_sem, gi, gr, gp], hwk.app0 _, Nat.le_refl _, hu, ?_, rfl⟩
    simp [gi, gr, gp]
end Go.Proofs.YtcmbmfmpelnimaaGreatDoor

set_option maxRecDepth 4000
set_option maxHeartbeats 2000000
namespace Go.Proofs.YtcmbmfmpelnimaaGreatDoor
open Go Go.Abs Go.Cw
attribute [local go_sem] mC
theorem kAV_vAV_und (n : Nat) (l : List (Bytes × V)) : (AObj.map (kAV vAV l)).under n = true := kAV_und (f := vAV) (fun n a => by simp [AV.under, V.c, underL]) n l
theorem kAV_u2 (n : Nat) (l : List (Bytes × V)) : (∀ (a b : AV), (a, b) ∈ kAV vAV l → AV.under n a = true ∧ AV.under n b = true) = True := by
  refine eq_true fun a b hab => ?_
  obtain ⟨s, x, rfl, rfl⟩ := kAV_mem hab
  simp [AV.under, V.c, underL]
theorem setArgs_nil (m : List (Bytes × V)) : setArgs [] [] m = m := rfl
theorem MH_run (st : List Pr) (ft : Foot) (fmt : Int → Bytes) (h A L : AHeap) {g : Nat} {tb : AObj} {tV tS : Nat} (hg : h[g]? = some tb) (hu : hUnder h.length h = true) (a l : Nat) (hA : A.length = a) (hL : L.length = l) (uA : hUnder (h.length + (a + l + 7)) A = true) (uL : hUnder (h.length + (a + l + 7)) L = true) :
    MH (cfgR fmt st ft) tb tV tS g (h.length + (a + 3)) (h.length + (a + 1)) (h.length + (a + 2)) (h.length + (a + l + 4)) (h.length + (a + l + 5)) (h.length + (a + l + 6))
      (fun q => h ++ (A ++ (.cells ft.c :: .map (kAV vAV q.vars) :: .map (kAV vAV q.own) :: .cells (mC (cfgR fmt st ft) (h.length + (a + 1)) (h.length + (a + 2)) (h.length + (a + l + 4)) (h.length + (a + l + 5)) (h.length + (a + l + 6)) q) :: (L ++ [.arr tV 3 (q.out.map V.c), .uarr tS 1 (q.reads.map sRow), .uarr tS 1 (q.puts.map sRow)])))) (h.length + (a + l + 7)) := by
  have hgl : g < h.length := (List.getElem?_eq_some_iff.1 hg).1
  subst hA; subst hL
  have e1 : ∀ (X : AHeap) (k : Nat), (h ++ X)[h.length + k]? = X[k]? := fun X k => by rw [List.getElem?_append_right (by omega)]; congr 1; omega
  have e2 : ∀ (X : AHeap) (k : Nat), (A ++ X)[A.length + k]? = X[k]? := fun X k => by rw [List.getElem?_append_right (by omega)]; congr 1; omega
  have e3 : ∀ (X : AHeap) (k : Nat), (L ++ X)[L.length + k]? = X[k]? := fun X k => by rw [List.getElem?_append_right (by omega)]; congr 1; omega
  have s1 : ∀ (X : AHeap) (k : Nat) (y : AObj), (h ++ X).set (h.length + k) y = h ++ X.set k y := fun X k y => by rw [List.set_append_right _ _ (by omega)]; congr 2; omega
  have s2 : ∀ (X : AHeap) (k : Nat) (y : AObj), (A ++ X).set (A.length + k) y = A ++ X.set k y := fun X k y => by rw [List.set_append_right _ _ (by omega)]; congr 2; omega
  have s3 : ∀ (X : AHeap) (k : Nat) (y : AObj), (L ++ X).set (L.length + k) y = L ++ X.set k y := fun X k y => by rw [List.set_append_right _ _ (by omega)]; congr 2; omega
  have e4 : ∀ (a b c d : AObj) (X : AHeap) (k : Nat), (a :: b :: c :: d :: (L ++ X))[L.length + 4 + k]? = X[k]? := fun a b c d X k => by
    rw [show L.length + 4 + k = (L.length + k) + 1 + 1 + 1 + 1 by omega]
    simp only [List.getElem?_cons_succ]
    exact e3 X k
  have s4 : ∀ (a b c d y : AObj) (X : AHeap) (k : Nat), (a :: b :: c :: d :: (L ++ X)).set (L.length + 4 + k) y = a :: b :: c :: d :: (L ++ X.set k y) := fun a b c d y X k => by
    rw [show L.length + 4 + k = (L.length + k) + 1 + 1 + 1 + 1 by omega]
    simp only [List.set_cons_succ]
    rw [s3]
  have i0 : h.length + (A.length + L.length + 4) = h.length + (A.length + (L.length + 4 + 0)) := by omega
  have i1 : h.length + (A.length + L.length + 5) = h.length + (A.length + (L.length + 4 + 1)) := by omega
  have i2 : h.length + (A.length + L.length + 6) = h.length + (A.length + (L.length + 4 + 2)) := by omega
  constructor
  case lg => intro q; rw [List.getElem?_append_left hgl]; exact hg
  case len => intro q; simp; omega
  case und =>
    intro q
    rw [hUnder_app, hUnder_mono (Nat.le_add_right _ _) hu, hUnder_app, uA]
    simp only [hUnder, kAV_vAV_und, hUnder_app, uL, Bool.true_and, Bool.and_true]
    simp [AObj.under, AV.under, underL, mC, Foot.c]
    omega
  case lm => intro q; rw [e1, e2]; rfl
  case lv => intro q; rw [e1, e2]; rfl
  case lo => intro q; rw [e1, e2]; rfl
  case lio => intro q; rw [i0, e1, e2, e4]; rfl
  case lir => intro q; rw [i1, e1, e2, e4]; rfl
  case lip => intro q; rw [i2, e1, e2, e4]; rfl
  case sm => intro q no nr np s; rw [s1, s2]; rfl
  case sv => intro q x; rw [s1, s2]; rfl
  case so => intro q x; rw [s1, s2]; rfl
  case sio => intro q x; simp only [i0, s1, s2, s4]; rfl
  case sir => intro q x; simp only [i1, s1, s2, s4]; rfl
  case sip => intro q x; simp only [i2, s1, s2, s4]; rfl
  all_goals omega
variable {C : Cfg} {tT : TypeId} {tx : Nat × Nat} {g m v o io ir ip : Nat} {K : MQ → AHeap} {n0 : Nat}
theorem c_interp_Run1 (hF : C.fmt = fmtI) (hC : rngC C) (p : Proc) (hG : ∀ x ∈ p.body, goS x) (Y : MHs C tT tx g m v o io ir ip K n0) (s : MS) (hI : Cw.Inv 0 0 s) {a b : Nat} (ha : ∀ q, (K q)[a]? = some (.cells [.ptr m 0])) (hb0 : ∀ q, (K q)[b]? = some (.cells p.c)) :
    ACalls Tryz.prog 37 [.ptr a 0, .ptr b 0] (K s.q) fun r h' => r = endU (blkI C p.body s).1 ∧ h' = K (blkI C p.body s).2.q := by
  refine acalls_introB Tryz.func37 rfl (by kernel_rfl) (by simp [Tryz.ntmps37]) ?_
  intro E hN hh hu hb hb' hua
  rw [Tryz.ntmps37] at hN
  refine awp_of_wpC _ _ _ ?_
  simp -dsimp [go_sem, hN, ha, hb0]
  refine tcall (c_machine_block hF hC p.body hG Y s hI) ?_
  rintro r h' ⟨rfl, rfl⟩
  rcases blkI C p.body s with ⟨z | ⟨⟩, s1⟩ <;> simp -dsimp [go_sem, hN, endU] <;> exact ⟨_, .refl _, K s1.q, by simp [go_sem], by first | exact hwk.refl _ | exact hwk.app0 _ | simp [hwk.refl], by simp [Y.len], Y.und' _, by first | rfl | simp, by first | rfl | simp [MS.q]⟩
abbrev effZ : AObj := .cells [I 0, I 0, .nils, .nils, .nils, .nils, S em, I 0]
def endC : Except Stop Unit → List AV
  | .ok _ => zs
  | .error z => [I z.status, I z.code, .slice [], S z.miss]
def isE : Except Stop Unit → Bool
  | .ok _ => false
  | .error _ => true
@[simp] theorem norm_endC (H : AHeap) (x : Except Stop Unit) : normL H (endC x) = endC x := by cases x <;> rfl
@[simp] theorem under_endC (n : Nat) (x : Except Stop Unit) : underL n (endC x) = true := by cases x <;> rfl
theorem c_run_of {a : AV} {f : FuncId} {caps : List AV} {h h1 : AHeap} {x : Except Stop Unit} (hl : h1.length = h.length) (hu : hUnder h.length h1 = true) (hc : ∀ H, normL H caps = caps) (hg : ACalls Tryz.prog f caps (h ++ [.cells [I 0, I 0, .nils, S em], .cells [Bo false]]) fun r h' => r = endU x ∧ h' = h1 ++ [.cells [I 0, I 0, .nils, S em], .cells [Bo false]]) :
    ACalls Tryz.prog 36 [a, .fn (.func f) [] caps] h fun r h' => r = .ret (.tuple [.agg (endC x), Bo (isE x)]) ∧ h' = h1 := by
  refine c_interp_run a (g := f) (first := []) (caps := caps) (by rw [List.nil_append, hc]; exact hg) ?_ ?_
  · rintro r h' ⟨rfl, rfl⟩ _
    have e1 : (h1 ++ [AObj.cells [I 0, I 0, .nils, S em], AObj.cells [Bo false]])[h.length]? = some (.cells [I 0, I 0, .nils, S em]) := by rw [← hl]; simp
    have e2 : (h1 ++ [AObj.cells [I 0, I 0, .nils, S em], AObj.cells [Bo false]])[h.length + 1]? = some (.cells [Bo false]) := by rw [← hl]; simp
    have e3 : (h1 ++ [AObj.cells [I 0, I 0, .nils, S em], AObj.cells [Bo false]]).take h.length = h1 := by rw [← hl]; simp
    refine ⟨⟨_, e1, rfl⟩, ⟨_, e2⟩, by rw [e3]; exact hu, ?_⟩
    rw [e3]
    rcases x with z | u
    · exact ⟨rfl, rfl, by simp [underL, AV.under], rfl, rfl⟩
    · exact ⟨rfl, rfl⟩
  · rintro h' st ⟨h1, _⟩ H
    rcases x with z | u
    · simp only [endU, stopAV, AEnd.panic.injEq, AV.iface.injEq, AV.agg.injEq, true_and] at h1
      subst h1
      rfl
    · cases h1
theorem c_machine_finish {h : AHeap} (x : Except Stop Unit) (s : MS) (hm : h[m]? = some (.cells (mC C v o io ir ip s.q))) (hio : h[io]? = some (.arr 47 3 (s.out.map V.c))) (hir : h[ir]? = some (.arr 9 1 (s.reads.map sRow))) (hip : h[ip]? = some (.arr 9 1 (s.puts.map sRow)))
    (ho : h[o]? = some (.map (kAV vAV s.own))) (hl : s.puts.length + 1 ≤ 68719476736) :
    ACalls Tryz.prog 35 [.ptr m 0, .agg (endC x), Bo (isE x)] h fun r h' => r = .ret (.agg (doneS (x, s)).c) ∧ h' = h := by
  rcases x with z | u
  · exact c_machine_finish_stop s.q hm hir hip rfl rfl z
  · exact c_machine_finish_ok s.q hm hio hir hip ho rfl rfl rfl hl
theorem c_interp_Run (p : Proc) (args : List V) (st : List Pr) (ft : Foot) (h : AHeap) (hg : h[g]? = some (tabO tT tx)) (hI : RunIn fmtI p args st) :
    ACalls Tryz.prog 10 [.agg p.c, .slice (args.map V.c), .slice (st.map Pr.c), .agg ft.c] h fun r h' => r = .ret (.agg (runS fmtI p args st ft).c) ∧ h' = h := by
  refine acalls_introB Tryz.func10 rfl (by kernel_rfl) (by simp [Tryz.ntmps10]) ?_
  intro E hN hh hu hb hb' hua
  rw [Tryz.ntmps10] at hN
  refine awp_of_wpC _ _ _ ?_
  simp [go_sem] at hb
  simp -dsimp [go_sem, hN]
  refine tcall_pure (c_cost_Check p) ?_
  simp -dsimp [go_sem, hN]
  refine tgcall_pure (c_types_Args p args) (by simp) ?_
  simp -dsimp [go_sem, hN]
  refine tgcall_pure (c_state_Valid st) (by simp) ?_
  simp -dsimp [go_sem, hN]
  refine tgcall_pure (c_interp_valid ft.all ft.reads ft.writes) (by simp) ?_
  simp -dsimp [go_sem, hN]
  repeat refine ⟨by grind, ?_⟩
  refine cnd (fun h0 => ?_) (fun h0 => ?_) <;> simp at h0
  · have hno : ¬ runOk p args st ft := by rw [runOk_iff]; grind
    rw [runS_no hno]
    simp -dsimp [go_sem, hN]
    refine tcall (c_interp_wrong _) ?_
    rintro r h' ⟨rfl, rfl⟩
    simp -dsimp [go_sem, hN]
    exact ⟨_, .refl _, h, by simp [go_sem], hwk.app0 _, Nat.le_refl _, hu, rfl, rfl⟩
  have hok : runOk p args st ft := by rw [runOk_iff]; grind
  have hok' := (runOk_iff _ _ _ _).1 hok
  have hlen := (argsErr_ok hok'.2.1).1
  rw [runS_yes hok]
  simp -dsimp [go_sem, hN]
  refine tcall (c_interp_newMachine st ft _) ?_
  rintro r h' ⟨rfl, rfl⟩
  simp -dsimp [go_sem, hN]
  have Y := MH_run (tb := tabO tT tx) (tV := 47) (tS := 9) st ft fmtI h [.cells p.c, .cells ft.c, effZ] [.cells [.ptr (h.length + 6) 0]] hg hu 3 1 rfl rfl (by simp [hUnder, AObj.under, AV.under, underL, Proc.c, Foot.c]) (by simp [hUnder, AObj.under, AV.under, underL])
  simp only [List.cons_append, List.nil_append, Nat.reduceAdd] at Y
  refine awp_loopA (α := List (Bytes × V)) p.params.length (fun n vs => setArgs (p.params.drop n) (args.drop n) vs = setArgs p.params args []) (fun n vs => ⟨[(1, .slice (args.map V.c)), (4, .ptr h.length 0), (8, .ptr (h.length + 2) 0), (9, .ptr (h.length + 7) 0), (36, .slice (p.params.map Param.c)), (37, I p.params.length), (38, I n)], h ++ [.cells p.c, .cells ft.c, effZ, .cells ft.c, .map (kAV vAV vs), .map (kAV vAV []), .cells (mC (cfgR fmtI st ft) (h.length + 4) (h.length + 5) (h.length + 8) (h.length + 9) (h.length + 10) ⟨vs, [], [], [], [], 0, 0, 0, 0⟩), .cells [.ptr (h.length + 6) 0], .arr 47 3 [], .uarr 9 1 [], .uarr 9 1 []]⟩) [] (by simp) ?_ ?_
  · refine (nilc_wk E _ (p := h.length + 6) (j := 8) (t := 47) (sz := 3) (xs := [.slice (st.map Pr.c), Bo ft.all, .slice (ft.reads.map sRow), .slice (ft.writes.map sRow), .mapr (h.length + 4), .mapr (h.length + 5), I 0, I 0, .nils, .nils, .nils, .nils, S em, I 0]) (by simp) rfl).trans ?_
    simp
    refine (nilcu_wk E _ (p := h.length + 6) (j := 9) (t := 9) (sz := 1) (xs := [.slice (st.map Pr.c), Bo ft.all, .slice (ft.reads.map sRow), .slice (ft.writes.map sRow), .mapr (h.length + 4), .mapr (h.length + 5), I 0, I 0, .own (h.length + 8) 0, .nils, .nils, .nils, S em, I 0]) (by simp) rfl).trans ?_
    simp
    refine (nilcu_wk E _ (p := h.length + 6) (j := 10) (t := 9) (sz := 1) (xs := [.slice (st.map Pr.c), Bo ft.all, .slice (ft.reads.map sRow), .slice (ft.writes.map sRow), .mapr (h.length + 4), .mapr (h.length + 5), I 0, I 0, .own (h.length + 8) 0, .own (h.length + 9) 0, .nils, .nils, S em, I 0]) (by simp) rfl).trans ?_
    simp [kAV, kvEnc]
    exact (Wk.mk (by simp [hh]) (by simp [go_sem]) (by simp [hu, hUnder_ext hu, go_sem]) (by simp [go_sem]))
  intro n vs hn hI2
  have hw := wrapS hn hb.1.2.1.1
  simp -dsimp [go_sem, hN]
  refine cnd (fun hc => ?_) (fun hc => ?_) <;> simp at hc
  · have hc2 : n < args.length := by omega
    simp -dsimp [go_sem, hN, hc]
    refine awp_drawQ 10 mixed (by kernel_rfl) (by kernel_rfl) ?_
    simp -dsimp [go_sem, hN, hc, hc2, hw]
    refine ⟨kSet vs p.params[n].name args[n], ?_, Wk.mk (by simp [hh]) (by simp [go_sem]) (by simp [hu, hUnder_ext hu, go_sem, kAV_u2]) (by simp [go_sem])⟩
    rw [drop_next hc, drop_next hc2, setArgs] at hI2
    exact hI2
  · rw [List.drop_eq_nil_of_le hc, List.drop_eq_nil_of_le (by omega), setArgs_nil] at hI2
    subst hI2
    obtain ⟨x, s1, hB⟩ : ∃ x s1, blkI (cfgR fmtI st ft) p.body (ms0 p args) = (x, s1) := ⟨_, _, rfl⟩
    have hd := (dl_blk (C := cfgR fmtI st ft) (fun q hq => hI.st q hq) p.body 1 (ms0 p args) (cost_okL hok'.1) (cost_goS hok'.1 hI.body) (inv0 hI)).pu
    rw [hB] at hd
    have hnl := cost_nL hok'.1
    have hlim := cost_lim hok'.1
    simp only [List.length_nil, Nat.zero_add] at hd
    have Y2 := Y.ext [.cells [I 0, I 0, .nils, S em], .cells [Bo false]] (by simp [hUnder, AObj.under, AV.under, underL])
    have hr := c_interp_Run1 (C := cfgR fmtI st ft) rfl (fun q hq => hI.st q hq) p (cost_goS hok'.1 hI.body) Y2 (ms0 p args) (inv0 hI) (a := h.length + 7) (b := h.length) (by intro q; simp) (by intro q; simp)
    rw [hB] at hr
    have hrun := c_run_of (a := .ptr (h.length + 6) 0) (by simp) (by simp [hUnder_app, hu, hUnder_mono, hUnder_ext hu, go_sem, kAV_u2, MS.q]) (fun H => by simp [normL, AV.norm]) hr
    simp -dsimp [go_sem, hN]
    refine awp_drawK 6 3 [0] mixed (by kernel_rfl) ?_
    simp -dsimp [go_sem, hN]
    refine tkcall_ret hrun ?_
    simp -dsimp [go_sem, hN]
    obtain ⟨Hd, hHd⟩ : ∃ Hd : AObj → AObj → AHeap, ∀ u1 u2, Hd u1 u2 = h ++ [.cells p.c, .cells ft.c, effZ, .cells ft.c, .map (kAV vAV s1.vars), .map (kAV vAV s1.own), .cells (mC (cfgR fmtI st ft) (h.length + 4) (h.length + 5) (h.length + 8) (h.length + 9) (h.length + 10) s1.q), .cells [.ptr (h.length + 6) 0], .arr 47 3 (s1.out.map V.c), u1, u2] := ⟨fun u1 u2 => _, fun _ _ => rfl⟩
    have hw2 : ∀ E, Wk E ⟨[], Hd (.uarr 9 1 (s1.reads.map sRow)) (.uarr 9 1 (s1.puts.map sRow))⟩ ⟨[], Hd (.arr 9 1 (s1.reads.map sRow)) (.arr 9 1 (s1.puts.map sRow))⟩ := fun E => by
      have d1 := demote_wk E ⟨[], Hd (.uarr 9 1 (s1.reads.map sRow)) (.uarr 9 1 (s1.puts.map sRow))⟩ (i := h.length + 9) (t := 9) (sz := 1) (rows := s1.reads.map sRow) (by simp [hHd])
      have d2 := demote_wk E ⟨[], Hd (.arr 9 1 (s1.reads.map sRow)) (.uarr 9 1 (s1.puts.map sRow))⟩ (i := h.length + 10) (t := 9) (sz := 1) (rows := s1.puts.map sRow) (by simp [hHd])
      refine d1.trans ?_
      have e1 : (Hd (.uarr 9 1 (s1.reads.map sRow)) (.uarr 9 1 (s1.puts.map sRow))).set (h.length + 9) (.arr 9 1 (s1.reads.map sRow)) = Hd (.arr 9 1 (s1.reads.map sRow)) (.uarr 9 1 (s1.puts.map sRow)) := by simp [hHd]
      have e2 : (Hd (.arr 9 1 (s1.reads.map sRow)) (.uarr 9 1 (s1.puts.map sRow))).set (h.length + 10) (.arr 9 1 (s1.puts.map sRow)) = Hd (.arr 9 1 (s1.reads.map sRow)) (.arr 9 1 (s1.puts.map sRow)) := by simp [hHd]
      rw [e2] at d2
      rw [e1]
      exact d2
    have hfin := c_machine_finish (C := cfgR fmtI st ft) (m := h.length + 6) (v := h.length + 4) (o := h.length + 5) (io := h.length + 8) (ir := h.length + 9) (ip := h.length + 10) (h := Hd (.arr 9 1 (s1.reads.map sRow)) (.arr 9 1 (s1.puts.map sRow))) x s1 (by simp [hHd]) (by simp [hHd]) (by simp [hHd]) (by simp [hHd]) (by simp [hHd]) (by omega)
    have hfin2 := acalls_wk hw2 hfin
    rw [hHd, hHd] at hfin2
    refine tcall hfin2 ?_
    rintro r h' ⟨rfl, rfl⟩
    simp -dsimp [go_sem, hN]
    rw [hB]
    exact ⟨_, .refl _, h, by simp [go_sem], hwk.app0 _, Nat.le_refl _, hu, rfl, rfl⟩
end Go.Proofs.YtcmbmfmpelnimaaGreatDoor
