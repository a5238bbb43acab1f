/- Part 27 of a proof: W42b, W43, W47 -/
import Derived.Test.YtcmbmfmpelnimaaGreatDoorQ11
import Derived.Test.YtcmbmfmpelnimaaGreatDoorQ18
import Derived.Test.YtcmbmfmpelnimaaGreatDoorQ25
import Derived.Test.YtcmbmfmpelnimaaGreatDoorQ26
set_option linter.all false

set_option maxRecDepth 4000
set_option maxHeartbeats 4000000
namespace Go.Proofs.YtcmbmfmpelnimaaGreatDoor
open Go Go.Abs Go.Cw
section
attribute [local go_sem] pRow
theorem c_ref11_operands (vars : Vis) (loops : List Bytes) (t : St) (d : Nat) (hok : okS t d) : APure Tryz.prog 181 [.agg [.slice (vars.map pRow), .slice (loops.map sRow)], .agg t.x] (.tuple [I (opsT vars t).1, I (opsT vars t).2.1, I (opsT vars t).2.2]) := by
  refine apure_introB Tryz.func181 rfl (by kernel_rfl) (by simp [Tryz.ntmps181]) rfl ?_
  intro E h hN hh hu hb
  rw [Tryz.ntmps181] at hN
  refine awp_of_wpC _ _ _ ?_
  simp -dsimp [go_sem, hN]
  refine cnd (fun h8 => ?_) (fun h8 => ?_) <;> simp at h8
  · simp -dsimp [go_sem, hN, opsT, h8]
  simp -dsimp [go_sem, hN]
  refine tcall_pure (c_ref11_Of vars t.a (okS_a hok h8)) ?_
  simp -dsimp [go_sem, hN]
  repeat refine ⟨by grind, ?_⟩
  refine cnd (fun h1 => ?_) (fun h1 => ?_)
  · have e : opsT vars t = ((ofE vars t.a).1, 0, (ofE vars t.a).2) := by
      unfold opsT
      rw [if_neg h8, if_neg (by simp at h1; omega)]
    simp -dsimp [go_sem, hN, e]
  have h1' : (ofE vars t.a).2 = 0 ∧ (t.op = 3 ∨ t.op = 6) := by simp at h1; omega
  have e : opsT vars t = ((ofE vars t.a).1, (ofE vars t.b).1, (ofE vars t.b).2) := by
    unfold opsT
    rw [if_neg h8, if_pos h1']
  simp -dsimp [go_sem, hN]
  refine tcall_pure (c_ref11_Of vars t.b (okS_b hok h1'.2)) ?_
  simp -dsimp [go_sem, hN, e]
theorem c_ref11_assign (vars : Vis) (loops : List Bytes) (name : Bytes) (ty : Int) : APure Tryz.prog 182 [.agg [.slice (vars.map pRow), .slice (loops.map sRow)], S name, I ty] (I (assignT vars loops name ty)) := by
  refine apure_introB Tryz.func182 rfl (by kernel_rfl) (by simp [Tryz.ntmps182]) rfl ?_
  intro E h hN hh hu hb
  rw [Tryz.ntmps182] at hN
  refine awp_of_wpC _ _ _ ?_
  simp [go_sem] at hb
  simp -dsimp [go_sem, hN]
  refine tcall_pure (c_ref11_lookup vars name) ?_
  simp -dsimp [go_sem, hN]
  refine cnd (fun h0 => ?_) (fun h0 => ?_) <;> simp at h0
  · simp -dsimp [go_sem, hN, assignT, h0]
  simp -dsimp [go_sem, hN]
  refine awp_loopN loops.length (fun n => hasK (loops.drop n) name = hasK loops name) (fun n => ⟨[(1, S name), (2, I ty), (3, .ptr h.length 0), (7, I (varT (kGet vars name)).1), (9, I n)], h ++ [.cells [.slice (vars.map pRow), .slice (loops.map sRow)]]⟩) (by simp) (Wk.mk (by simp [hh]) (by simp [go_sem]) (by simp [hu, hUnder_ext hu, go_sem]) (by simp [go_sem])) ?_
  intro n hn hI
  have hw := wrapS hn hb.1.2.1
  simp -dsimp [go_sem, hN]
  refine cnd (fun hc => ?_) (fun hc => ?_) <;> simp at hc
  · rw [drop_next hc, hasK, anyL] at hI
    simp -dsimp [go_sem, hN, hc]
    refine cnd (fun hg => ?_) (fun hg => ?_) <;> simp at hg
    · have hk : hasK loops name = true := by rw [← hI]; simp [hg]
      simp -dsimp [go_sem, hN, assignT, h0, hk]
    · simp -dsimp [go_sem, hN, hw]
      exact ⟨hc, by simpa [hg, hasK] using hI, (Wk.mk (by simp [hh]) (by simp [go_sem]) (by simp [hu, hUnder_ext hu, go_sem]) (by simp [go_sem]))⟩
  · rw [List.drop_eq_nil_of_le (by omega)] at hI
    have hk : hasK loops name = false := by rw [← hI]; rfl
    simp -dsimp [go_sem, hN]
    refine cnd (fun hg => ?_) (fun hg => ?_) <;> simp at hg
    · simp -dsimp [go_sem, hN, assignT, h0, hk, hg]
    · simp -dsimp [go_sem, hN, assignT, h0, hk, hg]
abbrev scA (vars : Vis) (loops : List Bytes) : List AV := [.slice (vars.map pRow), .slice (loops.map sRow)]
theorem c_ref11_body (l : List St) (d : Nat) (vars : Vis) (loops : List Bytes) (hok : okL l d) (hB : vars.length + (nmL l).length + 1 ≤ 68719476736) (hL : loops.length ≤ vars.length) : APure Tryz.prog 128 [.agg (scA vars loops), .slice (l.map St.c)] (I (rseqT l vars loops)) := by
  refine apure_introB Tryz.func128 rfl (by kernel_rfl) (by simp [Tryz.ntmps128]) rfl ?_
  intro E h hN hh hu hb
  rw [Tryz.ntmps128] at hN
  refine awp_of_wpC _ _ _ ?_
  simp [go_sem] at hb
  simp -dsimp [go_sem, hN]
  refine awp_loopA (α := Vis) l.length (fun n vs => rseqT (l.drop n) vs loops = rseqT l vars loops ∧ vs.length + (nmL (l.drop n)).length + 1 ≤ 68719476736 ∧ loops.length ≤ vs.length) (fun n vs => ⟨[(1, .slice (l.map St.c)), (2, .ptr h.length 0), (5, I n)], h ++ [.cells (scA vs loops)]⟩) vars ⟨by simp, by simpa using hB, hL⟩ (Wk.mk (by simp [hh]) (by simp [go_sem]) (by simp [hu, hUnder_ext hu, go_sem]) (by simp [go_sem])) ?_
  clear hB hL
  intro n vs hn ⟨hI, hB, hL⟩
  have hw := wrapS hn hb.2.1
  simp -dsimp [go_sem, hN]
  refine cnd (fun hc => ?_) (fun hc => ?_) <;> simp at hc
  rotate_left
  · rw [List.drop_eq_nil_of_le (by omega), rseqT] at hI
    simp -dsimp [go_sem, hN, ← hI]
  obtain ⟨t, ht⟩ : ∃ t, l[n] = t := ⟨_, rfl⟩
  have hkt := hok l[n] (List.getElem_mem hc)
  have hkt' := (okS_iff _ _).1 hkt
  have hop := okS_op hkt
  have hlt1 : SizeOf.sizeOf l[n].body < SizeOf.sizeOf l := Nat.lt_trans (St.body_le _) (List.sizeOf_lt_of_mem (List.getElem_mem hc))
  have hlt2 : SizeOf.sizeOf l[n].els < SizeOf.sizeOf l := Nat.lt_trans (St.els_le _) (List.sizeOf_lt_of_mem (List.getElem_mem hc))
  rw [drop_next hc, rseqT] at hI
  rw [drop_next hc, nmL, nmS_eq] at hB
  simp only [List.length_append] at hB
  simp -dsimp [go_sem, hN, hc]
  refine tcall_pure (c_ref11_operands vs loops l[n] d hkt) ?_
  obtain ⟨oa, ob, oe, ho⟩ : ∃ oa ob oe, opsT vs l[n] = (oa, ob, oe) := ⟨_, _, _, rfl⟩
  have hr := rstT_eq l[n] vs loops
  rw [ho] at hr
  simp only at hr
  rw [ho] at hI
  simp -dsimp [go_sem, hN, ho]
  by_cases hz : oe = 0
  · subst hz
    have hwrong := c_ref11_wrong l[n].op oa ob
    rcases hop with ho1 | ho1 | ho1 | ho1 | ho1 | ho1 | ho1 | ho1
    · have e0 : rstT l[n] vs loops = 0 := by rw [hr]; simp [ho1, wrongT]
      rw [e0, if_neg (by simp), if_pos ho1] at hI
      rw [if_pos (.inl ho1)] at hB
      simp only [List.length_singleton] at hB
      simp -dsimp [go_sem, hN, ho1]
      rw [ho1] at hwrong
      refine tgcall_pure hwrong (by simp) ?_
      simp -dsimp [go_sem, hN, wrongT]
      refine tcall_pure (c_ref11_with vs loops l[n].name oa false (by omega) (by omega)) ?_
      simp -dsimp [go_sem, hN, hw]
      refine ⟨hc, vs ++ [(l[n].name, oa)], ⟨hI, by simp; omega, by simp; omega⟩, (Wk.mk (by simp [hh]) (by simp [go_sem]) (by simp [hu, hUnder_ext hu, go_sem]) (by simp [go_sem]))⟩
    · have e0 : rstT l[n] vs loops = assignT vs loops l[n].name oa := by rw [hr]; simp [ho1, wrongT]
      rw [e0] at hI
      simp -dsimp [go_sem, hN, ho1]
      refine tcall_pure (c_ref11_assign vs loops l[n].name oa) ?_
      obtain ⟨a1, ha1⟩ : ∃ a1, assignT vs loops l[n].name oa = a1 := ⟨_, rfl⟩
      rw [ha1] at hI ⊢
      by_cases hz1 : a1 = 0
      · subst hz1
        rw [if_neg (by simp), if_neg (by omega)] at hI
        simp -dsimp [go_sem, hN]
        rw [ho1] at hwrong
        refine tgcall_pure hwrong (by simp) ?_
        simp -dsimp [go_sem, hN, wrongT, hw]
        exact ⟨hc, vs, ⟨hI, by omega, hL⟩, (Wk.mk (by simp [hh]) (by simp [go_sem]) (by simp [hu, hUnder_ext hu, go_sem]) (by simp [go_sem]))⟩
      · rw [if_pos hz1] at hI
        simp -dsimp [go_sem, hN, hz1]
        rw [ho1] at hwrong
        refine tgcall_pure hwrong (by simp) ?_
        simp -dsimp [go_sem, hN, wrongT, hz1]
        exact hI
    · have e0 : rstT l[n] vs loops = if wrongT l[n].op oa ob = true then 10 else 0 := by rw [hr]; simp [ho1]
      rw [e0] at hI
      simp -dsimp [go_sem, hN, ho1]
      rw [ho1] at hwrong hI
      refine tgcall_pure hwrong (by simp) ?_
      rcases hwt : wrongT 3 oa ob with _ | _
      · rw [hwt] at hI
        rw [if_neg (by simp), if_neg (by decide)] at hI
        simp -dsimp [go_sem, hN, hw]
        exact ⟨hc, vs, ⟨hI, by omega, hL⟩, (Wk.mk (by simp [hh]) (by simp [go_sem]) (by simp [hu, hUnder_ext hu, go_sem]) (by simp [go_sem]))⟩
      · rw [hwt] at hI
        rw [if_pos (by simp)] at hI
        simp -dsimp [go_sem, hN]
        simpa using hI
    · have e0 : rstT l[n] vs loops = if wrongT l[n].op oa ob = true then 10 else 0 := by rw [hr]; simp [ho1]
      rw [e0] at hI
      simp -dsimp [go_sem, hN, ho1]
      rw [ho1] at hwrong hI
      refine tgcall_pure hwrong (by simp) ?_
      rcases hwt : wrongT 4 oa ob with _ | _
      · rw [hwt] at hI
        rw [if_neg (by simp), if_neg (by decide)] at hI
        simp -dsimp [go_sem, hN, hw]
        exact ⟨hc, vs, ⟨hI, by omega, hL⟩, (Wk.mk (by simp [hh]) (by simp [go_sem]) (by simp [hu, hUnder_ext hu, go_sem]) (by simp [go_sem]))⟩
      · rw [hwt] at hI
        rw [if_pos (by simp)] at hI
        simp -dsimp [go_sem, hN]
        simpa using hI
    · have e0 : rstT l[n] vs loops = if wrongT l[n].op oa ob = true then 10 else (if rseqT l[n].body vs loops = 0 then rseqT l[n].els vs loops else rseqT l[n].body vs loops) := by
        rw [hr]
        rcases wrongT l[n].op oa ob with _ | _ <;> simp [ho1]
      rw [e0] at hI
      simp -dsimp [go_sem, hN, ho1]
      rw [ho1] at hwrong hI
      refine tgcall_pure hwrong (by simp) ?_
      rcases hwt : wrongT 5 oa ob with _ | _
      · rw [hwt] at hI
        rw [if_neg (show ¬ (false = true) by simp)] at hI
        simp -dsimp [go_sem, hN]
        refine tcall_pure (c_ref11_body l[n].body (d + 1) vs loops hkt'.2.1 (by omega) hL) ?_
        obtain ⟨b1, hb1⟩ : ∃ b1, rseqT l[n].body vs loops = b1 := ⟨_, rfl⟩
        rw [hb1] at hI ⊢
        by_cases hz1 : b1 = 0
        · subst hz1
          rw [if_pos rfl] at hI
          simp -dsimp [go_sem, hN]
          refine tcall_pure (c_ref11_body l[n].els (d + 1) vs loops hkt'.2.2 (by omega) hL) ?_
          obtain ⟨b2, hb2⟩ : ∃ b2, rseqT l[n].els vs loops = b2 := ⟨_, rfl⟩
          rw [hb2] at hI ⊢
          by_cases hz2 : b2 = 0
          · subst hz2
            rw [if_neg (by simp), if_neg (by decide)] at hI
            simp -dsimp [go_sem, hN, hw]
            exact ⟨hc, vs, ⟨hI, by omega, hL⟩, (Wk.mk (by simp [hh]) (by simp [go_sem]) (by simp [hu, hUnder_ext hu, go_sem]) (by simp [go_sem]))⟩
          · rw [if_pos hz2] at hI
            simp -dsimp [go_sem, hN, hz2]
            exact hI
        · rw [if_neg hz1, if_pos hz1] at hI
          simp -dsimp [go_sem, hN, hz1]
          exact hI
      · rw [hwt] at hI
        rw [if_pos (show true = true from rfl), if_pos (by simp)] at hI
        simp -dsimp [go_sem, hN]
        simpa using hI
    · have e0 : rstT l[n] vs loops = if wrongT l[n].op oa ob = true then 10 else rseqT l[n].body (vs ++ [(l[n].name, 1)]) (loops ++ [l[n].name]) := by
        rw [hr]
        rcases wrongT l[n].op oa ob with _ | _ <;> simp [ho1]
      rw [e0] at hI
      rw [if_pos (.inr ho1)] at hB
      simp only [List.length_singleton] at hB
      simp -dsimp [go_sem, hN, ho1]
      rw [ho1] at hwrong hI
      refine tgcall_pure hwrong (by simp) ?_
      rcases hwt : wrongT 6 oa ob with _ | _
      · rw [hwt] at hI
        rw [if_neg (show ¬ (false = true) by simp)] at hI
        simp -dsimp [go_sem, hN]
        refine awp_drawQ 6 mixed (by kernel_rfl) (by kernel_rfl) ?_
        simp -dsimp [go_sem, hN]
        refine tdcall (c_ref11_with vs loops l[n].name 1 true (by omega) (by omega)) (fun _ => trivial) ?_
        simp -dsimp [go_sem, hN]
        have hbd := c_ref11_body l[n].body (d + 1) (vs ++ [(l[n].name, 1)]) (loops ++ [l[n].name]) hkt'.2.1 (by rw [List.length_append, List.length_singleton]; omega) (by rw [List.length_append, List.length_append, List.length_singleton, List.length_singleton]; omega)
        unfold scA at hbd
        rw [List.map_append, List.map_append] at hbd
        simp only [List.map_cons, List.map_nil, pRow, sRow] at hbd
        refine tcall_pure hbd ?_
        obtain ⟨b1, hb1⟩ : ∃ b1, rseqT l[n].body (vs ++ [(l[n].name, 1)]) (loops ++ [l[n].name]) = b1 := ⟨_, rfl⟩
        rw [hb1] at hI ⊢
        by_cases hz1 : b1 = 0
        · subst hz1
          rw [if_neg (by simp), if_neg (by decide)] at hI
          simp -dsimp [go_sem, hN, hw]
          exact ⟨hc, vs, ⟨hI, by omega, hL⟩, (Wk.mk (by simp [hh]) (by simp [go_sem]) (by simp [hu, hUnder_ext hu, go_sem]) (by simp [go_sem]))⟩
        · rw [if_pos hz1] at hI
          simp -dsimp [go_sem, hN, hz1]
          exact hI
      · rw [hwt] at hI
        rw [if_pos (show true = true from rfl), if_pos (by simp)] at hI
        simp -dsimp [go_sem, hN]
        simpa using hI
    · have e0 : rstT l[n] vs loops = if wrongT l[n].op oa ob = true then 10 else 0 := by rw [hr]; simp [ho1]
      rw [e0] at hI
      simp -dsimp [go_sem, hN, ho1]
      rw [ho1] at hwrong hI
      refine tgcall_pure hwrong (by simp) ?_
      rcases hwt : wrongT 7 oa ob with _ | _
      · rw [hwt] at hI
        rw [if_neg (by simp), if_neg (by decide)] at hI
        simp -dsimp [go_sem, hN, hw]
        exact ⟨hc, vs, ⟨hI, by omega, hL⟩, (Wk.mk (by simp [hh]) (by simp [go_sem]) (by simp [hu, hUnder_ext hu, go_sem]) (by simp [go_sem]))⟩
      · rw [hwt] at hI
        rw [if_pos (by simp)] at hI
        simp -dsimp [go_sem, hN]
        simpa using hI
    · have e0 : rstT l[n] vs loops = if wrongT l[n].op oa ob = true then 10 else 0 := by rw [hr]; simp [ho1]
      rw [e0] at hI
      simp -dsimp [go_sem, hN, ho1]
      rw [ho1] at hwrong hI
      refine tgcall_pure hwrong (by simp) ?_
      rcases hwt : wrongT 8 oa ob with _ | _
      · rw [hwt] at hI
        rw [if_neg (by simp), if_neg (by decide)] at hI
        simp -dsimp [go_sem, hN, hw]
        exact ⟨hc, vs, ⟨hI, by omega, hL⟩, (Wk.mk (by simp [hh]) (by simp [go_sem]) (by simp [hu, hUnder_ext hu, go_sem]) (by simp [go_sem]))⟩
      · rw [hwt] at hI
        rw [if_pos (by simp)] at hI
        simp -dsimp [go_sem, hN]
        simpa using hI
  · have e0 : rstT l[n] vs loops = oe := by rw [hr]; simp [hz]
    rw [e0, if_pos hz] at hI
    simp -dsimp [go_sem, hN, hz]
    refine tgcall_pure (c_ref11_wrong l[n].op oa ob) (by simp) ?_
    simp -dsimp [go_sem, hN, hz]
    exact hI
termination_by SizeOf.sizeOf l
theorem valid_few {p : Proc} (h : validP p = 0) : p.params.length ≤ 6 := by
  unfold validP at h
  split at h
  · cases h
  split at h
  · rename_i h1; exact (h1 h).elim
  · rename_i h1
    simp only [Decidable.not_not] at h1
    unfold paramsE at h1
    split at h1
    · cases h1
    · omega
theorem nm_le {p : Proc} (h : validP p = 0) : (nmL p.body).length ≤ 401 := by
  have h1 := namesP_eq h
  rw [namesP_walk] at h1
  have h2 := List.append_cancel_left h1
  have h3 := (wkP_fold (keepS (σ := Unit)) keepR p ()).1
  have h4 : ∀ l : List Vt, (nameV l).length ≤ l.length := by
    intro l
    induction l with
    | nil => simp [nameV]
    | cons v l ih => rw [nameV]; split <;> simp <;> omega
  have := h4 (wkP p)
  rw [← h2]
  omega
theorem c_ref11_Check (p : Proc) : APure Tryz.prog 83 [.agg p.c] (I (typeErr p)) := by
  refine apure_introB Tryz.func83 rfl (by kernel_rfl) (by simp [Tryz.ntmps83]) rfl ?_
  intro E h hN hh hu hb
  rw [Tryz.ntmps83] at hN
  refine awp_of_wpC _ _ _ ?_
  rw [← rtypeErr_eq]
  simp -dsimp [go_sem, hN]
  refine tcall_pure (c_ref08_Validate p) ?_
  simp -dsimp [go_sem, hN]
  refine cnd (fun h0 => ?_) (fun h0 => ?_) <;> simp at h0
  · simp -dsimp [go_sem, hN, rtypeErr, h0]
  have hfew := valid_few h0
  have hnm := nm_le h0
  obtain ⟨R, hR⟩ : ∃ R, rtypeErr p = R := ⟨_, rfl⟩
  have hR' := hR
  unfold rtypeErr at hR'
  rw [if_neg (by simp [h0])] at hR'
  rw [hR]
  obtain ⟨vv, hvv⟩ : ∃ vv : Nat → Vis, ∀ n, vv n = visP (p.params.take n) := ⟨_, fun _ => rfl⟩
  have hv0 : vv 0 = [] := by rw [hvv]; rfl
  have hvl : vv p.params.length = visP p.params := by rw [hvv, List.take_length]
  have hvn : ∀ n, n ≤ p.params.length → (vv n).length = n := fun n hn => by rw [hvv]; simp [visP]; omega
  rw [← hvl] at hR'
  simp -dsimp [go_sem, hN]
  refine awp_loopN p.params.length (fun n => (p.params.drop n).any (fun x => decide (x.ty = 3)) = p.params.any (fun x => decide (x.ty = 3))) (fun n => ⟨[(1, P0 h.length), (4, P0 (h.length + 1)), (5, I n)], h ++ [.cells p.c, .cells (scA (vv n) [])]⟩) (by simp) ?_ ?_
  · exact Wk.mk (by simp [hh]) (by simp [go_sem, hv0]) (by simp [hu, hUnder_ext hu, go_sem]) (by simp [go_sem, hv0])
  intro n hn hI
  have hw := wrapS hn (show _ ≤ 68719476736 by omega)
  simp -dsimp [go_sem, hN]
  refine cnd (fun hc => ?_) (fun hc => ?_) <;> simp at hc
  · rw [drop_next hc, List.any_cons] at hI
    simp -dsimp [go_sem, hN, hc]
    refine cnd (fun h3 => ?_) (fun h3 => ?_) <;> simp at h3
    · rw [if_pos (by rw [← hI]; simp [h3])] at hR'
      simp -dsimp [go_sem, hN, ← hR']
    · simp -dsimp [go_sem, hN]
      refine awp_drawQ 13 mixed (by kernel_rfl) (by kernel_rfl) ?_
      simp -dsimp [go_sem, hN, hc]
      refine tcall_pure (c_ref11_with (vv n) [] p.params[n].name p.params[n].ty false (by rw [hvn n (by omega)]; omega) (by simp)) ?_
      have e1 : vv n ++ [(p.params[n].name, p.params[n].ty)] = vv (n + 1) := by
        rw [hvv, hvv]; unfold visP; rw [List.take_succ_eq_append_getElem hc, List.map_append]; rfl
      rw [e1]
      simp -dsimp [go_sem, hN, hw]
      exact ⟨by simpa [h3] using hI, (Wk.mk (by simp [hh]) (by simp [go_sem]) (by simp [hu, hUnder_ext hu, go_sem]) (by simp [go_sem]))⟩
  rw [List.drop_eq_nil_of_le (by omega)] at hI
  rw [if_neg (by rw [← hI]; simp)] at hR'
  obtain rfl : n = p.params.length := by omega
  simp -dsimp [go_sem, hN]
  refine tcall_pure (c_ref08_Names p (by omega)) ?_
  rw [← namesP_walk]
  obtain ⟨N, hN2⟩ : ∃ N, namesP p = N := ⟨_, rfl⟩
  rw [hN2] at hR' ⊢
  have hNl : N.length ≤ 407 := by rw [← hN2, namesP_eq h0]; simp; omega
  simp -dsimp [go_sem, hN]
  refine awp_loopN N.length (fun k => dupL (N.take k) (N.drop k) = dupL [] N) (fun k => ⟨[(1, P0 h.length), (4, P0 (h.length + 1)), (6, .slice (N.map sRow)), (7, I k)], h ++ [.cells p.c, .cells (scA (vv p.params.length) [])]⟩) (by simp) (Wk.mk (by simp [hh]) (by simp [go_sem]) (by simp [hu, hUnder_ext hu, go_sem]) (by simp [go_sem])) ?_
  intro k hk hJ
  have hw := wrapS hk (show _ ≤ 68719476736 by omega)
  simp -dsimp [go_sem, hN]
  refine cnd (fun hd => ?_) (fun hd => ?_) <;> simp at hd
  · rw [drop_next hd, dupL] at hJ
    simp -dsimp [go_sem, hN]
    refine awp_loopN k (fun q => anyL (fun x => decide (x = N[k])) ((N.take k).drop q) = anyL (fun x => decide (x = N[k])) (N.take k)) (fun q => ⟨[(1, P0 h.length), (4, P0 (h.length + 1)), (6, .slice (N.map sRow)), (7, I k), (8, I q)], h ++ [.cells p.c, .cells (scA (vv p.params.length) [])]⟩) (by simp) (Wk.mk (by simp [hh]) (by simp [go_sem]) (by simp [hu, hUnder_ext hu, go_sem]) (by simp [go_sem])) ?_
    intro q hq hK
    have hw2 := wrapS hq (show _ ≤ 68719476736 by omega)
    simp -dsimp [go_sem, hN]
    refine cnd (fun he => ?_) (fun he => ?_) <;> simp at he
    · have he2 : q < N.length := by omega
      have hx : q < (N.take k).length := by simp; omega
      rw [drop_next hx, anyL] at hK
      simp only [List.getElem_take] at hK
      simp -dsimp [go_sem, hN, he, he2, hd]
      refine awp_drawQ 8 mixed (by kernel_rfl) (by kernel_rfl) ?_
      simp -dsimp [go_sem, hN, he, he2, hd]
      refine cnd (fun hg => ?_) (fun hg => ?_) <;> simp at hg
      · have h1 : hasK (N.take k) N[k] = true := by unfold hasK; rw [← hK]; simp [hg]
        have h2 : dupL [] N = true := by rw [← hJ, h1]; rfl
        rw [if_pos h2] at hR'
        simp -dsimp [go_sem, hN, ← hR']
      · simp -dsimp [go_sem, hN, hw2]
        exact ⟨he, by simpa [hg] using hK, (Wk.mk (by simp [hh]) (by simp [go_sem]) (by simp [hu, hUnder_ext hu, go_sem]) (by simp [go_sem]))⟩
    · rw [List.drop_eq_nil_of_le (by simp; omega), anyL] at hK
      have h1 : hasK (N.take k) N[k] = false := by unfold hasK; rw [← hK]
      rw [h1, Bool.false_or] at hJ
      simp -dsimp [go_sem, hN, hw]
      exact ⟨hd, by rw [List.take_succ_eq_append_getElem hd]; exact hJ, (Wk.mk (by simp [hh]) (by simp [go_sem]) (by simp [hu, hUnder_ext hu, go_sem]) (by simp [go_sem]))⟩
  · rw [List.drop_eq_nil_of_le (by omega), dupL] at hJ
    rw [← hJ, if_neg (by simp)] at hR'
    simp -dsimp [go_sem, hN]
    refine tcall_pure (c_ref11_body p.body 1 (vv p.params.length) [] (validP_ok h0) (by rw [hvn _ (Nat.le_refl _)]; omega) (by simp)) ?_
    simp -dsimp [go_sem, hN, hR']
theorem c_ref11_fits (x : Param) (v : V) (hx : x.ty = 1 ∨ x.ty = 2) : APure Tryz.prog 84 [.agg v.c, I x.ty] (Bo (argOk x v)) := by
  refine apure_introB Tryz.func84 rfl (by kernel_rfl) (by simp [Tryz.ntmps84]) rfl ?_
  intro E h hN hh hu hb
  rw [Tryz.ntmps84] at hN
  refine awp_of_wpC _ _ _ ?_
  simp -dsimp [go_sem, hN]
  refine cnd (fun h0 => ?_) (fun h0 => ?_) <;> simp at h0
  · simp -dsimp [go_sem, hN, argOk, h0]
  simp -dsimp [go_sem, hN]
  refine tgcall_pure (c_ref08_Plain v.s) (by simp) ?_
  have h2 : x.ty = 2 := hx.resolve_left h0
  simp -dsimp [go_sem, hN, argOk, h2]
  try grind
theorem params_12 {p : Proc} (h : typeErr p = 0) : ∀ x ∈ p.params, x.ty = 1 ∨ x.ty = 2 := by
  rw [← rtypeErr_eq] at h
  unfold rtypeErr at h
  split at h
  · rename_i h1; exact (h1 h).elim
  rename_i h1
  split at h
  · cases h
  rename_i h2
  intro x hx
  have hv := valid_params (by simpa using h1) x hx
  have h3 : x.ty ≠ 3 := fun e => h2 (List.any_eq_true.2 ⟨x, hx, by simp [e]⟩)
  omega
theorem c_ref11_Args (p : Proc) (args : List V) : APure Tryz.prog 40 [.agg p.c, .slice (args.map V.c)] (I (argsErr p args)) := by
  refine apure_introB Tryz.func40 rfl (by kernel_rfl) (by simp [Tryz.ntmps40]) rfl ?_
  intro E h hN hh hu hb
  rw [Tryz.ntmps40] at hN
  refine awp_of_wpC _ _ _ ?_
  simp -dsimp [go_sem, hN]
  refine tcall_pure (c_ref11_Check p) ?_
  simp -dsimp [go_sem, hN]
  repeat refine ⟨by grind, ?_⟩
  refine cnd (fun h0 => ?_) (fun h0 => ?_)
  · simp -dsimp [go_sem, hN]
    unfold argsErr
    rw [if_pos (by simp at h0; omega)]
  have h0' : typeErr p = 0 ∧ args.length = p.params.length := by simp at h0; omega
  have e0 : argsErr p args = if argsOk p.params args = true then 0 else 10 := by unfold argsErr; rw [if_neg (by omega)]
  rw [e0]
  simp -dsimp [go_sem, hN]
  refine awp_loopN args.length (fun n => argsOk (p.params.drop n) (args.drop n) = argsOk p.params args) (fun n => ⟨[(1, .slice (args.map V.c)), (2, P0 h.length), (5, I n)], h ++ [.cells p.c]⟩) (by simp) (Wk.mk (by simp [hh]) (by simp [go_sem]) (by simp [hu, hUnder_ext hu, go_sem]) (by simp [go_sem])) ?_
  intro n hn hI
  simp [go_sem] at hb
  have hw := wrapS hn (show _ ≤ 68719476736 by first | exact hb.2.1 | exact hb.2 | exact hb.1.2.1.1 | omega)
  simp -dsimp [go_sem, hN]
  refine cnd (fun hc => ?_) (fun hc => ?_) <;> simp at hc
  · have hc2 : n < p.params.length := by omega
    rw [drop_next hc, drop_next hc2, argsOk] at hI
    simp -dsimp [go_sem, hN, hc, hc2]
    refine awp_drawQ 10 mixed (by kernel_rfl) (by kernel_rfl) ?_
    simp -dsimp [go_sem, hN, hc, hc2]
    refine tcall_pure (c_ref11_fits p.params[n] args[n] (params_12 h0'.1 _ (List.getElem_mem hc2))) ?_
    simp -dsimp [go_sem, hN]
    refine cnd (fun h1 => ?_) (fun h1 => ?_) <;> simp at h1
    · simp -dsimp [go_sem, hN, ← hI, h1]
    · simp -dsimp [go_sem, hN, hw]
      exact ⟨hc, by simpa [h1] using hI, (Wk.mk (by simp [hh]) (by simp [go_sem]) (by simp [hu, hUnder_ext hu, go_sem]) (by simp [go_sem]))⟩
  · rw [List.drop_eq_nil_of_le (show p.params.length ≤ n by omega), List.drop_eq_nil_of_le (show args.length ≤ n by omega)] at hI
    have hI' : argsOk p.params args = true := by rw [← hI]; simp [argsOk]
    rw [if_pos hI'] at e0
    rw [if_pos hI']
    simp -dsimp [go_sem, hN]
end
end Go.Proofs.YtcmbmfmpelnimaaGreatDoor

set_option maxRecDepth 4000
set_option maxHeartbeats 2000000
namespace Go.Proofs.YtcmbmfmpelnimaaGreatDoor
open Go Go.Abs Go.Cw
theorem c_ref12_nondeterministic (op : Int) : APure Tryz.prog 172 [I op] (Bo (nonDet op)) := by
  refine apure_introB Tryz.func172 rfl (by kernel_rfl) (by simp [Tryz.ntmps172]) rfl ?_
  intro E h hN hh hu hb
  rw [Tryz.ntmps172] at hN
  refine awp_of_wpC _ _ _ ?_
  simp -dsimp [go_sem, hN, nonDet]
  try grind
theorem ops_len (e : Ex) : (opsE e).length = nodes e := by simp [opsE, nodes]
theorem rootV_len : ∀ l : List Vt, (rootV l).length ≤ l.length
  | [] => by simp [rootV]
  | v :: l => by
    have := rootV_len l
    rw [rootV]
    split <;> simp <;> omega
theorem c_ref12_Ops (e : Ex) (hB : nodes e ≤ 1000000) : APure Tryz.prog 171 [.agg e.x] (.slice ((opsE e).map iRow)) := by
  refine apure_introB Tryz.func171 rfl (by kernel_rfl) (by simp [Tryz.ntmps171]) rfl ?_
  intro E h hN hh hu hb
  rw [Tryz.ntmps171] at hN
  simp [go_sem] at hb
  refine awp_seq (awp_ops ?_)
  simp [go_sem, hN]
  refine awp_seq (awp_opsT [_, _] _ ?_)
  simp [go_sem, hN]
  intro c a w s k
  refine wp_lit1 s k (x := .tmp 6) (el := 3) (d1 := 7) rfl rfl (by omega) rfl (by simp [go_sem]) (by simp [go_sem]) (by simp [go_sem]) (by simp [go_sem]) (v := .int .i64 e.op) (by simp [go_sem]) rfl fun c' a' w' s' k' => ?_
  refine opsF_sound _ [_, _, _] _ rfl ?_ c' a' w' s' k'
  simp [go_sem, hN]
  apply awp_of_wpC
  simp -dsimp [go_sem, hN]
  refine awp_loopA (α := List Int) e.args.length (fun n o => o ++ opsL (e.args.drop n) = opsE e ∧ o.length + nodesL (e.args.drop n) ≤ 1000000) (fun n o => ⟨[(1, P0 h.length), (3, .own (h.length + 1) o.length), (4, I n)], h ++ [.cells e.x, .arr 3 1 (o.map iRow)]⟩) [e.op] ⟨by rw [opsE_eq]; simp, by have := nodes_eq e; simp; omega⟩ (Wk.mk (by simp [hh]) (by simp [go_sem]) (by simp [hu, hUnder_ext hu, go_sem]) (by simp [go_sem])) ?_
  rintro n o hn ⟨hI, ho⟩
  have hw := wrapS hn (show _ ≤ 68719476736 by first | exact hb.2.1 | omega)
  simp -dsimp [go_sem, hN]
  refine cnd (fun hc => ?_) (fun hc => ?_) <;> simp at hc
  · rw [drop_next hc, opsL_cons] at hI
    rw [drop_next hc, nodesL_cons] at ho
    have hlt : SizeOf.sizeOf e.args[n] < SizeOf.sizeOf e := Ex.arg_lt (List.getElem_mem hc)
    have hOps := c_ref12_Ops e.args[n] (by omega)
    have hol : (opsE e.args[n]).length = nodes e.args[n] := ops_len _
    obtain ⟨O, hO⟩ : ∃ O, opsE e.args[n] = O := ⟨_, rfl⟩
    rw [hO] at hI hol hOps
    simp -dsimp [go_sem, hN, hc]
    refine tcall_pure hOps ?_
    simp -dsimp [go_sem, hN, hc, hw]
    refine ⟨by omega, o ++ O, ⟨by rw [List.append_assoc]; exact hI, by simp; omega⟩, (Wk.mk (by simp [hh]) (by simp [go_sem]) (by simp [hu, hUnder_ext hu, go_sem]) (by simp [go_sem]))⟩
  · rw [List.drop_eq_nil_of_le (by omega)] at hI
    have hI' : o = opsE e := by rw [← hI]; simp [preL]
    obtain ⟨O, hO⟩ : ∃ O, opsE e = O := ⟨_, rfl⟩
    rw [hO] at hI' ⊢
    simp -dsimp [go_sem, hN, hI']
    rw [← hO]
    simp
termination_by SizeOf.sizeOf e
theorem c_ref12_First (p : Proc) : APure Tryz.prog 123 [.agg p.c] (.tuple [I (firstP p).1, I (firstP p).2.1, Bo (firstP p).2.2]) := by
  refine apure_introB Tryz.func123 rfl (by kernel_rfl) (by simp [Tryz.ntmps123]) rfl ?_
  intro E h hN hh hu hb
  rw [Tryz.ntmps123] at hN
  refine awp_of_wpC _ _ _ ?_
  simp -dsimp [go_sem, hN]
  refine tcall_pure (c_ref08_Validate p) ?_
  simp -dsimp [go_sem, hN]
  refine cnd (fun h0 => ?_) (fun h0 => ?_) <;> simp at h0
  · simp -dsimp [go_sem, hN, firstP, h0]
  have hk : ∀ x ∈ exprsP p, nodes x ≤ 4096 := fun x hx => by
    have := chkE_nodes x 1 12 (exprs_ok h0 x hx) (by omega)
    omega
  have hlen : (exprsP p).length ≤ 401 := by
    rw [exprsP_walk]
    have h1 := (wkP_fold (keepS (σ := Unit)) keepR p ()).1
    have h2 := rootV_len (wkP p)
    omega
  rw [firstP_eq h0]
  simp -dsimp [go_sem, hN]
  have hEx := c_ref08_Exprs p
  rw [← exprsP_walk] at hEx
  obtain ⟨L, hL⟩ : ∃ L, exprsP p = L := ⟨_, rfl⟩
  rw [hL] at hk hlen hEx ⊢
  refine tcall_pure hEx ?_
  simp -dsimp [go_sem, hN]
  obtain ⟨R, hR⟩ : ∃ R, firstI (opsL L) 0 = R := ⟨_, rfl⟩
  rw [hR]
  refine awp_loopA (α := Nat) L.length (fun n m => firstI (opsL (L.drop n)) m = R ∧ m ≤ 4096 * n) (fun n m => ⟨[(5, .slice (L.map Ex.c)), (6, I m), (7, I n)], h⟩) 0 ⟨by simpa using hR, by omega⟩ (Wk.mk (by simp [hh]) (by simp [go_sem]) (by simp [hu, hUnder_ext hu, go_sem]) (by simp [go_sem])) ?_
  intro n m hn ⟨hI, hm⟩
  have hw := wrapS hn (show _ ≤ 68719476736 by omega)
  simp -dsimp [go_sem, hN]
  refine cnd (fun hc => ?_) (fun hc => ?_) <;> simp at hc
  · have hkn := hk _ (List.getElem_mem hc)
    rw [drop_next hc, opsL_cons] at hI
    simp -dsimp [go_sem, hN, hc]
    have hOps := c_ref12_Ops L[n] (by omega)
    have hol : (opsE L[n]).length ≤ 4096 := by rw [ops_len]; exact hkn
    obtain ⟨O, hO⟩ : ∃ O, opsE L[n] = O := ⟨_, rfl⟩
    rw [hO] at hI hol hOps
    refine tcall_pure hOps ?_
    simp -dsimp [go_sem, hN]
    refine awp_loopN O.length (fun k => firstI (O.drop k ++ opsL (L.drop (n + 1))) ((m + k : Nat) : Int) = R) (fun k => ⟨[(5, .slice (L.map Ex.c)), (6, I ((m + k : Nat) : Int)), (7, I n), (8, .slice (O.map iRow)), (9, I k)], h⟩) (by simpa using hI) (Wk.mk (by simp [hh]) (by simp [go_sem]) (by simp [hu, hUnder_ext hu, go_sem]) (by simp [go_sem])) ?_
    intro k hk2 hJ
    have hw2 := wrapS hk2 (show _ ≤ 68719476736 by omega)
    have hw3 : IntKind.i64.wrap (((m + k : Nat) : Int) + 1) = ((m + (k + 1) : Nat) : Int) := by rw [wrapI (by omega) (by omega)]; omega
    have hw4 : IntKind.i64.wrap ((m : Int) + (k : Int) + 1) = (m : Int) + ((k : Int) + 1) := by rw [wrapI (by omega) (by omega)]; omega
    simp -dsimp [go_sem, hN]
    refine cnd (fun hkc => ?_) (fun hkc => ?_) <;> simp at hkc
    · rw [drop_next hkc, List.cons_append, firstI] at hJ
      simp -dsimp [go_sem, hN, hkc, iRow]
      refine tcall_pure (c_ref12_nondeterministic O[k]) ?_
      simp -dsimp [go_sem, hN]
      refine cnd (fun hg => ?_) (fun hg => ?_) <;> try simp at hg
      · rw [if_pos hg] at hJ
        simp -dsimp [go_sem, hN, hkc, iRow]
        rw [← hJ]
        exact ⟨rfl, rfl, rfl⟩
      · rw [if_neg (by simp [hg])] at hJ
        simp -dsimp [go_sem, hN, hw2, hw3, hw4]
        exact ⟨hkc, by rw [← hJ]; congr 1, (Wk.mk (by simp [hh]) (by simp [go_sem]) (by simp [hu, hUnder_ext hu, go_sem]) (by simp [go_sem]))⟩
    · have hkO : k = O.length := by omega
      subst hkO
      rw [List.drop_eq_nil_of_le (by omega), List.nil_append] at hJ
      simp -dsimp [go_sem, hN, hw]
      exact ⟨hc, m + O.length, ⟨hJ, by omega⟩, (Wk.mk (by simp [hh]) (by simp [go_sem]) (by simp [hu, hUnder_ext hu, go_sem]) (by simp [go_sem]))⟩
  · rw [List.drop_eq_nil_of_le (by omega)] at hI
    have : firstI (opsL []) m = (0, 0, false) := rfl
    rw [this] at hI
    simp -dsimp [go_sem, hN]
    rw [← hI]
    exact ⟨rfl, rfl, rfl⟩
theorem c_ref12_Check (p : Proc) : APure Tryz.prog 81 [.agg p.c] (I (detErr p)) := by
  refine apure_introB Tryz.func81 rfl (by kernel_rfl) (by simp [Tryz.ntmps81]) rfl ?_
  intro E h hN hh hu hb
  rw [Tryz.ntmps81] at hN
  refine awp_of_wpC _ _ _ ?_
  simp -dsimp [go_sem, hN]
  refine tcall_pure (c_ref11_Check p) ?_
  simp -dsimp [go_sem, hN]
  refine cnd (fun h0 => ?_) (fun h0 => ?_) <;> simp at h0
  · simp -dsimp [go_sem, hN, detErr, h0]
  simp -dsimp [go_sem, hN]
  refine tcall_pure (c_ref12_First p) ?_
  simp -dsimp [go_sem, hN]
  refine cnd (fun h1 => ?_) (fun h1 => ?_) <;> try simp at h1
  · simp -dsimp [go_sem, hN, detErr, h0, h1]
  · simp -dsimp [go_sem, hN, detErr, h0, h1]
section
attribute [local go_sem] Cnt.c
theorem c_ref13_cut (n : Int) : APure Tryz.prog 223 [I n] (I (cut n)) := by
  refine apure_introB Tryz.func223 rfl (by kernel_rfl) (by simp [Tryz.ntmps223]) rfl ?_
  intro E h hN hh hu hb
  rw [Tryz.ntmps223] at hN
  refine awp_of_wpC _ _ _ ?_
  simp -dsimp [go_sem, hN]
  simp only [cut, mn]
theorem c_ref13_plus (x y : Cnt) : APure Tryz.prog 174 [.agg x.c, .agg y.c] (.agg (x.plus y).c) := by
  refine apure_introB Tryz.func174 rfl (by kernel_rfl) (by simp [Tryz.ntmps174]) rfl ?_
  intro E h hN hh hu hb
  rw [Tryz.ntmps174] at hN
  refine awp_of_wpC _ _ _ ?_
  simp -dsimp [go_sem, hN]
  refine awp_drawQ 23 mixed (by kernel_rfl) (by kernel_rfl) ?_
  simp -dsimp [go_sem, hN]
  first | refine tcall_pure (c_ref13_cut _) ?_ | refine tdcall (c_ref13_cut _) (fun _ => trivial) ?_
  simp -dsimp [go_sem, hN]
  first | refine tcall_pure (c_ref13_cut _) ?_ | refine tdcall (c_ref13_cut _) (fun _ => trivial) ?_
  simp -dsimp [go_sem, hN]
  first | refine tcall_pure (c_ref13_cut _) ?_ | refine tdcall (c_ref13_cut _) (fun _ => trivial) ?_
  simp -dsimp [go_sem, hN]
  first | refine tcall_pure (c_ref13_cut _) ?_ | refine tdcall (c_ref13_cut _) (fun _ => trivial) ?_
  simp -dsimp [go_sem, hN]
  simp [Cnt.plus, cut]
theorem c_ref13_greater (x y : Cnt) : APure Tryz.prog 175 [.agg x.c, .agg y.c] (.agg (x.larger y).c) := by
  refine apure_introB Tryz.func175 rfl (by kernel_rfl) (by simp [Tryz.ntmps175]) rfl ?_
  intro E h hN hh hu hb
  rw [Tryz.ntmps175] at hN
  refine awp_of_wpC _ _ _ ?_
  simp -dsimp [go_sem, hN]
  simp [Cnt.larger, mx]
theorem c_ref13_times (k : Int) (x : Cnt) : APure Tryz.prog 176 [I k, .agg x.c] (.agg (Cnt.rtimes k x).c) := by
  refine apure_introB Tryz.func176 rfl (by kernel_rfl) (by simp [Tryz.ntmps176]) rfl ?_
  intro E h hN hh hu hb
  rw [Tryz.ntmps176] at hN
  refine awp_of_wpC _ _ _ ?_
  simp -dsimp [go_sem, hN]
  refine awp_drawQ 19 mixed (by kernel_rfl) (by kernel_rfl) ?_
  simp -dsimp [go_sem, hN]
  first | refine tcall_pure (c_ref13_cut _) ?_ | refine tdcall (c_ref13_cut _) (fun _ => trivial) ?_
  simp -dsimp [go_sem, hN]
  first | refine tcall_pure (c_ref13_cut _) ?_ | refine tdcall (c_ref13_cut _) (fun _ => trivial) ?_
  simp -dsimp [go_sem, hN]
  first | refine tcall_pure (c_ref13_cut _) ?_ | refine tdcall (c_ref13_cut _) (fun _ => trivial) ?_
  simp -dsimp [go_sem, hN]
  first | refine tcall_pure (c_ref13_cut _) ?_ | refine tdcall (c_ref13_cut _) (fun _ => trivial) ?_
  simp -dsimp [go_sem, hN]
  simp [Cnt.rtimes, cut]
theorem c_ref13_gets (e : Ex) : APure Tryz.prog 224 [.agg e.x] (I (rgE e)) := by
  refine apure_introB Tryz.func224 rfl (by kernel_rfl) (by simp [Tryz.ntmps224]) rfl ?_
  intro E h hN hh hu hb
  rw [Tryz.ntmps224] at hN
  refine awp_of_wpC _ _ _ ?_
  simp [go_sem] at hb
  rw [rgE_eq]
  obtain ⟨G, hG⟩ : ∃ G : Int, G = if e.op = 22 ∨ e.op = 23 ∨ e.op = 24 then 1 else 0 := ⟨_, rfl⟩
  rw [← hG]
  simp -dsimp [go_sem, hN]
  refine cnd (fun h1 => ?_) (fun h1 => ?_)
  · have hv : G = 1 := by rw [hG, if_pos (by simp at h1; omega)]
    simp -dsimp [go_sem, hN]
    refine awp_loopA (α := Int) e.args.length (fun n m => rgL (e.args.drop n) m = rgL e.args G) (fun n m => ⟨[(1, .ptr h.length 0), (3, I m), (4, I n)], h ++ [.cells e.x]⟩) G (by simp) (Wk.mk (by simp [hh]) (by simp [go_sem]) (by simp [hu, hUnder_ext hu, go_sem]) (by simp [go_sem, hv])) ?_
    intro n m hn hI
    have hw := wrapS hn hb.2.1
    simp -dsimp [go_sem, hN]
    refine cnd (fun hc => ?_) (fun hc => ?_) <;> simp at hc
    · rw [drop_next hc, rgL] at hI
      have hlt : SizeOf.sizeOf e.args[n] < SizeOf.sizeOf e := Ex.arg_lt (List.getElem_mem hc)
      simp -dsimp [go_sem, hN, hc]
      refine tcall_pure (c_ref13_gets e.args[n]) ?_
      simp -dsimp [go_sem, hN]
      refine tcall_pure (c_ref13_cut _) ?_
      simp -dsimp [go_sem, hN, hw]
      exact ⟨hc, _, hI, (Wk.mk (by simp [hh]) (by simp [go_sem]) (by simp [hu, hUnder_ext hu, go_sem]) (by simp [go_sem]))⟩
    · rw [List.drop_eq_nil_of_le (by omega), rgL] at hI
      simp -dsimp [go_sem, hN, hI]
  · have hv : G = 0 := by rw [hG, if_neg (by simp at h1; omega)]
    simp -dsimp [go_sem, hN]
    refine awp_loopA (α := Int) e.args.length (fun n m => rgL (e.args.drop n) m = rgL e.args G) (fun n m => ⟨[(1, .ptr h.length 0), (3, I m), (4, I n)], h ++ [.cells e.x]⟩) G (by simp) (Wk.mk (by simp [hh]) (by simp [go_sem]) (by simp [hu, hUnder_ext hu, go_sem]) (by simp [go_sem, hv])) ?_
    intro n m hn hI
    have hw := wrapS hn hb.2.1
    simp -dsimp [go_sem, hN]
    refine cnd (fun hc => ?_) (fun hc => ?_) <;> simp at hc
    · rw [drop_next hc, rgL] at hI
      have hlt : SizeOf.sizeOf e.args[n] < SizeOf.sizeOf e := Ex.arg_lt (List.getElem_mem hc)
      simp -dsimp [go_sem, hN, hc]
      refine tcall_pure (c_ref13_gets e.args[n]) ?_
      simp -dsimp [go_sem, hN]
      refine tcall_pure (c_ref13_cut _) ?_
      simp -dsimp [go_sem, hN, hw]
      exact ⟨hc, _, hI, (Wk.mk (by simp [hh]) (by simp [go_sem]) (by simp [hu, hUnder_ext hu, go_sem]) (by simp [go_sem]))⟩
    · rw [List.drop_eq_nil_of_le (by omega), rgL] at hI
      simp -dsimp [go_sem, hN, hI]
termination_by SizeOf.sizeOf e
theorem c_ref13_own (t : St) : APure Tryz.prog 173 [.agg t.x] (.agg (rown t).c) := by
  refine apure_introB Tryz.func173 rfl (by kernel_rfl) (by simp [Tryz.ntmps173]) rfl ?_
  intro E h hN hh hu hb
  rw [Tryz.ntmps173] at hN
  refine awp_of_wpC _ _ _ ?_
  simp -dsimp [go_sem, hN]
  refine awp_drawQ 10 mixed (by kernel_rfl) (by kernel_rfl) ?_
  simp -dsimp [go_sem, hN]
  first | refine tcall_pure (c_ref13_gets t.a) ?_ | refine tdcall (c_ref13_gets t.a) (fun _ => trivial) ?_
  simp -dsimp [go_sem, hN]
  first | refine tcall_pure (c_ref13_gets t.b) ?_ | refine tdcall (c_ref13_gets t.b) (fun _ => trivial) ?_
  simp -dsimp [go_sem, hN]
  first | refine tcall_pure (c_ref13_cut _) ?_ | refine tdcall (c_ref13_cut _) (fun _ => trivial) ?_
  simp -dsimp [go_sem, hN]
  by_cases h3 : t.op = 3 ∨ t.op = 4
  · have h7 : t.op ≠ 7 := by omega
    have e : rown t = ⟨1, cut (W64 (rgE t.a + rgE t.b)), 1, 0⟩ := by unfold rown; rw [if_pos h3, if_neg h7]
    rw [e]
    refine cnd (fun h => ?_) (fun h => by simp at h; omega)
    simp -dsimp [go_sem, hN, h7]
  · by_cases h7 : t.op = 7
    · have e : rown t = ⟨1, cut (W64 (rgE t.a + rgE t.b)), 0, 1⟩ := by unfold rown; rw [if_neg h3, if_pos h7]
      rw [e]
      refine cnd (fun h => by simp at h; omega) (fun h => ?_)
      simp -dsimp [go_sem, hN, h7]
    · have e : rown t = ⟨1, cut (W64 (rgE t.a + rgE t.b)), 0, 0⟩ := by unfold rown; rw [if_neg h3, if_neg h7]
      rw [e]
      refine cnd (fun h => by simp at h; omega) (fun h => ?_)
      simp -dsimp [go_sem, hN, h7]
theorem c_ref13_body (l : List St) : APure Tryz.prog 124 [.slice (l.map St.c)] (.agg (rcB l).c) := by
  refine apure_introB Tryz.func124 rfl (by kernel_rfl) (by simp [Tryz.ntmps124]) rfl ?_
  intro E h hN hh hu hb
  rw [Tryz.ntmps124] at hN
  refine awp_of_wpC _ _ _ ?_
  simp [go_sem] at hb
  simp -dsimp [go_sem, hN]
  refine awp_loopA (α := Cnt) l.length (fun n c => rcL (l.drop n) c = rcB l) (fun n c => ⟨[(0, .slice (l.map St.c)), (2, P0 h.length), (3, P0 (h.length + 1)), (4, I n)], h ++ [.cells [I 0, I 0, I 0, I 0], .cells c.c]⟩) ⟨0, 0, 0, 0⟩ (by simp) (Wk.mk (by simp [hh]) (by simp [go_sem]) (by simp [hu, hUnder_ext hu, go_sem]) (by simp [go_sem])) ?_
  intro n c hn hI
  have hw := wrapS hn (show _ ≤ 68719476736 by first | exact hb.1 | exact hb | omega)
  simp -dsimp [go_sem, hN]
  refine cnd (fun hc => ?_) (fun hc => ?_) <;> simp at hc
  rotate_left
  · rw [List.drop_eq_nil_of_le (by omega), rcL] at hI
    simp -dsimp [go_sem, hN, ← hI]
  rw [drop_next hc, rcL, rcS_eq] at hI
  have hlt1 : SizeOf.sizeOf l[n].body < SizeOf.sizeOf l := Nat.lt_trans (St.body_le _) (List.sizeOf_lt_of_mem (List.getElem_mem hc))
  have hlt2 : SizeOf.sizeOf l[n].els < SizeOf.sizeOf l := Nat.lt_trans (St.els_le _) (List.sizeOf_lt_of_mem (List.getElem_mem hc))
  simp -dsimp [go_sem, hN, hc]
  refine tcall_pure (c_ref13_own l[n]) ?_
  simp -dsimp [go_sem, hN]
  by_cases h5 : l[n].op = 5
  · have h6 : l[n].op ≠ 6 := by omega
    simp only [h5, if_true, show ¬ (5 : Int) = 6 by decide, if_false] at hI
    simp -dsimp [go_sem, hN, h5]
    refine awp_drawQ 8 mixed (by kernel_rfl) (by kernel_rfl) ?_
    simp -dsimp [go_sem, hN]
    first | refine tcall_pure (c_ref13_body l[n].body) ?_ | refine tdcall (c_ref13_body l[n].body) (fun _ => trivial) ?_
    simp -dsimp [go_sem, hN]
    first | refine tcall_pure (c_ref13_body l[n].els) ?_ | refine tdcall (c_ref13_body l[n].els) (fun _ => trivial) ?_
    simp -dsimp [go_sem, hN]
    first | refine tcall_pure (c_ref13_greater _ _) ?_ | refine tdcall (c_ref13_greater _ _) (fun _ => trivial) ?_
    simp -dsimp [go_sem, hN]
    first | refine tcall_pure (c_ref13_plus _ _) ?_ | refine tdcall (c_ref13_plus _ _) (fun _ => trivial) ?_
    simp -dsimp [go_sem, hN, h5]
    refine tcall_pure (c_ref13_plus _ _) ?_
    simp -dsimp [go_sem, hN, hw]
    exact ⟨hc, _, hI, (Wk.mk (by simp [hh]) (by simp [go_sem]) (by simp [hu, hUnder_ext hu, go_sem]) (by simp [go_sem]))⟩
  · by_cases h6 : l[n].op = 6
    · simp only [h6, if_true, show ¬ (6 : Int) = 5 by decide, if_false] at hI
      simp -dsimp [go_sem, hN, h6]
      refine awp_drawQ 11 mixed (by kernel_rfl) (by kernel_rfl) ?_
      simp -dsimp [go_sem, hN]
      first | refine tcall_pure (c_ref13_body l[n].body) ?_ | refine tdcall (c_ref13_body l[n].body) (fun _ => trivial) ?_
      simp -dsimp [go_sem, hN]
      first | refine tcall_pure (c_ref13_times l[n].max _) ?_ | refine tdcall (c_ref13_times l[n].max _) (fun _ => trivial) ?_
      simp -dsimp [go_sem, hN]
      first | refine tcall_pure (c_ref13_plus _ _) ?_ | refine tdcall (c_ref13_plus _ _) (fun _ => trivial) ?_
      simp -dsimp [go_sem, hN]
      first | refine tcall_pure (c_ref13_plus _ ⟨l[n].max, 0, 0, 0⟩) ?_ | refine tdcall (c_ref13_plus _ ⟨l[n].max, 0, 0, 0⟩) (fun _ => trivial) ?_
      simp -dsimp [go_sem, hN]
      refine tcall_pure (c_ref13_plus _ _) ?_
      simp -dsimp [go_sem, hN, hw]
      exact ⟨hc, _, hI, (Wk.mk (by simp [hh]) (by simp [go_sem]) (by simp [hu, hUnder_ext hu, go_sem]) (by simp [go_sem]))⟩
    · simp only [h5, h6, if_false] at hI
      simp -dsimp [go_sem, hN, h5, h6]
      refine tcall_pure (c_ref13_plus _ _) ?_
      simp -dsimp [go_sem, hN, hw]
      exact ⟨hc, _, hI, (Wk.mk (by simp [hh]) (by simp [go_sem]) (by simp [hu, hUnder_ext hu, go_sem]) (by simp [go_sem]))⟩
termination_by SizeOf.sizeOf l
theorem det_valid {p : Proc} (h : detErr p = 0) : validP p = 0 := by
  unfold detErr at h
  split at h
  · rename_i h1; exact (h1 h).elim
  · rename_i h1
    simp only [Decidable.not_not] at h1
    unfold typeErr at h1
    split at h1
    · rename_i h2; exact (h2 h1).elim
    · rename_i h2; simpa using h2
theorem c_ref13_Of (p : Proc) (hd0 : detErr p = 0) : APure Tryz.prog 82 [.agg p.c] (.tuple [.agg (cntB p.body).c, Bo true]) := by
  refine apure_introB Tryz.func82 rfl (by kernel_rfl) (by simp [Tryz.ntmps82]) rfl ?_
  intro E h hN hh hu hb
  rw [Tryz.ntmps82] at hN
  refine awp_of_wpC _ _ _ ?_
  have hv := det_valid hd0
  have hr := rcB_eq (validP_ok hv)
  have hbd := c_ref13_body p.body
  rw [hr] at hbd
  have hck := c_ref12_Check p
  rw [hd0] at hck
  simp -dsimp [go_sem, hN]
  refine tcall_pure hck ?_
  simp -dsimp [go_sem, hN]
  refine tcall_pure hbd ?_
  simp -dsimp [go_sem, hN]
theorem c_ref13_Check (p : Proc) : APure Tryz.prog 39 [.agg p.c] (I (costErr p)) := by
  refine apure_introB Tryz.func39 rfl (by kernel_rfl) (by simp [Tryz.ntmps39]) rfl ?_
  intro E h hN hh hu hb
  rw [Tryz.ntmps39] at hN
  refine awp_of_wpC _ _ _ ?_
  simp -dsimp [go_sem, hN]
  refine tcall_pure (c_ref12_Check p) ?_
  simp -dsimp [go_sem, hN]
  refine cnd (fun h0 => ?_) (fun h0 => ?_) <;> simp at h0
  · simp -dsimp [go_sem, hN, costErr, h0]
  have hOf := c_ref13_Of p h0
  simp -dsimp [go_sem, hN]
  refine tcall_pure hOf ?_
  simp -dsimp [go_sem, hN]
  refine cnd (fun h1 => ?_) (fun h1 => ?_) <;> simp at h1
  · simp -dsimp [go_sem, hN, costErr, h0, h1]
  simp -dsimp [go_sem, hN]
  repeat refine ⟨by grind, ?_⟩
  refine cnd (fun h2 => ?_) (fun h2 => ?_)
  · have e : costErr p = 2 := by
      unfold costErr
      rw [if_neg (by simp [h0]), if_neg (by omega), if_pos (by simp at h2; omega)]
    simp -dsimp [go_sem, hN, e]
  · have e : costErr p = 0 := by
      unfold costErr
      rw [if_neg (by simp [h0]), if_neg (by omega), if_neg (by simp at h2; omega)]
    simp -dsimp [go_sem, hN, e]
end
end Go.Proofs.YtcmbmfmpelnimaaGreatDoor

set_option maxRecDepth 4000
set_option maxHeartbeats 4000000
namespace Go.Proofs.YtcmbmfmpelnimaaGreatDoor
open Go Go.Abs Go.Cw
attribute [local go_sem] mC
variable {C : Cfg} {tT : TypeId} {tx : Nat × Nat} {g m v o io ir ip : Nat} {K : MQ → AHeap} {n0 : Nat}
def endX (x : EV) : Except Stop Unit := match x with | .ok _ => .ok () | .error z => .error z
def setX (h : AHeap) (d : Nat) (x : EV) : AHeap := match x with | .ok v => h.set d (.cells v.c) | .error _ => h
theorem c_interp_Eval1 (hF : C.fmt = fmtI) (hC : rngC C) (e : Ex) (hX : rngX e) (Y : MHs C tT tx g m v o io ir ip K n0) (s : MS) (hM : rngM s) (ha0 : ascS s.reads) (hl : s.reads.length + nodes e ≤ 1000000000) {a b d : Nat} (ha : ∀ q, (K q)[a]? = some (.cells [.ptr m 0])) (hb0 : ∀ q, (K q)[b]? = some (.cells e.x)) (hd : ∀ q, (K q)[d]? = some (.cells [I 0, I 0, S em])) :
    ACalls Tryz.prog 52 [.ptr a 0, .ptr b 0, .ptr d 0] (K s.q) fun r h' => r = endU (endX (evE C e s).1) ∧ h' = setX (K (evE C e s).2.q) d (evE C e s).1 := by
  refine acalls_introB Tryz.func52 rfl (by kernel_rfl) (by simp [Tryz.ntmps52]) ?_
  intro E hN hh hu hb hb' hua
  rw [Tryz.ntmps52] at hN
  refine awp_of_wpC _ _ _ ?_
  simp -dsimp [go_sem, hN, ha, hb0]
  refine tcall (c_machine_eval hF hC Y s e hX hM ha0 hl) ?_
  rintro r h' ⟨rfl, rfl⟩
  rcases evE C e s with ⟨z | w, s1⟩
  · simp -dsimp [go_sem, hN, endV, endX, setX, endU]
    exact ⟨_, .refl _, K s1.q, by simp [go_sem], by first | exact hwk.refl _ | exact hwk.app0 _ | simp [hwk.refl], by simp [Y.len], Y.und' _, by first | rfl | simp, by first | rfl | simp [MS.q]⟩
  · simp -dsimp [go_sem, hN, endV, endX, setX, endU, hd]
    have hdl : d < (K s1.q).length := (List.getElem?_eq_some_iff.1 (hd s1.q)).1
    exact ⟨_, .refl _, (K s1.q).set d (.cells [I w.k, I w.n, S w.s]), by simp [go_sem], by simp [hwk.refl], by simp [Y.len], by simpa using hUnder_set (Y.und' _) (by simp [AObj.under, AV.under, underL]), rfl, rfl⟩
theorem c_interp_Eval (e : Ex) (vars st : List Pr) (ft : Foot) (h : AHeap) (hg : h[g]? = some (tabO tT tx)) (hI : EvIn fmtI e vars st) :
    ACalls Tryz.prog 15 [.agg e.x, .slice (vars.map Pr.c), .slice (st.map Pr.c), .agg ft.c] h fun r h' => r = .ret (.tuple [.agg (evalS fmtI e vars st ft).1.c, .agg (evalS fmtI e vars st ft).2.c]) ∧ h' = h := by
  refine acalls_introB Tryz.func15 rfl (by kernel_rfl) (by simp [Tryz.ntmps15]) ?_
  intro E hN hh hu hb hb' hua
  rw [Tryz.ntmps15] at hN
  refine awp_of_wpC _ _ _ ?_
  simp [go_sem] at hb
  simp -dsimp [go_sem, hN]
  refine tcall_pure (c_ast_ValidExpr e) ?_
  simp -dsimp [go_sem, hN]
  refine tgcall_pure (c_state_Valid st) (by simp) ?_
  simp -dsimp [go_sem, hN]
  refine tgcall_pure (c_interp_valid ft.all ft.reads ft.writes) (by simp) ?_
  simp -dsimp [go_sem, hN]
  repeat refine ⟨by grind, ?_⟩
  refine cnd (fun h0 => ?_) (fun h0 => ?_) <;> simp at h0
  · have hno : ¬ evOk e st ft := by rw [evOk_iff]; grind
    have e1 : evalS fmtI e vars st ft = (V.nil, wrongE) := by unfold evalS; rw [if_neg (fun g => hno g.1)]
    rw [e1]
    simp -dsimp [go_sem, hN]
    refine tcall (c_interp_wrong _) ?_
    rintro r h' ⟨rfl, rfl⟩
    simp -dsimp [go_sem, hN, V.nil]
    exact ⟨_, .refl _, h, by simp [go_sem], hwk.app0 _, Nat.le_refl _, hu, rfl, rfl⟩
  have hok : evOk e st ft := by rw [evOk_iff]; grind
  have hok' := evOk_iff.1 hok
  simp -dsimp [go_sem, hN]
  refine tcall (c_interp_newMachine st ft _) ?_
  rintro r h' ⟨rfl, rfl⟩
  simp -dsimp [go_sem, hN]
  have Y := MH_run (tb := tabO tT tx) (tV := 47) (tS := 9) st ft fmtI h [.cells e.x, .cells ft.c, .cells [I 0, I 0, S em], effZ] [.cells [.ptr (h.length + 7) 0], .cells [I 0, I 0, S em]] hg hu 4 2 rfl rfl (by simp [hUnder, AObj.under, AV.under, underL, Foot.c, Ex.x]) (by simp [hUnder, AObj.under, AV.under, underL])
  simp only [List.cons_append, List.nil_append, Nat.reduceAdd] at Y
  refine awp_loopA (α := List (Bytes × V)) vars.length (fun n vs => firstV (vars.drop n) vs = firstV vars [] ∧ varsOk (vars.drop n) = varsOk vars) (fun n vs => ⟨[(4, P0 h.length), (8, P0 (h.length + 2)), (9, P0 (h.length + 3)), (10, P0 (h.length + 8)), (36, .slice (vars.map Pr.c)), (37, I vars.length), (38, I n)], h ++ [.cells e.x, .cells ft.c, .cells [I 0, I 0, S em], effZ, .cells ft.c, .map (kAV vAV vs), .map (kAV vAV []), .cells [.slice (st.map Pr.c), Bo ft.all, .slice (ft.reads.map sRow), .slice (ft.writes.map sRow), .mapr (h.length + 5), .mapr (h.length + 6), I 0, I 0, .nils, .nils, .nils, .nils, S em, I 0], .cells [.ptr (h.length + 7) 0]]⟩) [] (by simp) ?_ ?_
  · simp [kAV, kvEnc]
    exact (Wk.mk (by simp [hh]) (by simp [go_sem]) (by simp [hu, hUnder_ext hu, go_sem]) (by simp [go_sem]))
  rintro n vs hn ⟨hI2, hI3⟩
  have hw := wrapS hn (show _ ≤ 68719476736 by first | exact hb.2.1.1 | exact hb.2.1 | omega)
  simp -dsimp [go_sem, hN]
  refine cnd (fun hc => ?_) (fun hc => ?_) <;> simp at hc
  · rw [drop_next hc] at hI2 hI3
    rw [firstV] at hI2
    have e3 : varsOk (vars[n] :: vars.drop (n + 1)) = (varOk vars[n].v.k vars[n].v.n vars[n].v.s && varsOk (vars.drop (n + 1))) := rfl
    rw [e3] at hI3
    simp -dsimp [go_sem, hN, hc]
    refine tcall_pure (c_interp_variable _ _ _) ?_
    simp -dsimp [go_sem, hN]
    refine cnd (fun h1 => ?_) (fun h1 => ?_) <;> simp at h1
    · have e1 : evalS fmtI e vars st ft = (V.nil, wrongE) := by unfold evalS; rw [if_neg (fun g => by rw [← hI3, h1] at g; simp at g)]
      rw [e1]
      simp -dsimp [go_sem, hN]
      refine tcall (c_interp_wrong _) ?_
      rintro r h' ⟨rfl, rfl⟩
      simp -dsimp [go_sem, hN, V.nil]
      exact ⟨_, .refl _, h, by simp [go_sem], hwk.app0 _, Nat.le_refl _, hu, rfl, rfl⟩
    simp -dsimp [go_sem, hN]
    refine awp_drawG 12 mixed (by kernel_rfl) ?_
    rcases hk : kGet vs vars[n].key with _ | w
    · rw [hk] at hI2
      simp only [Option.isSome_none, Bool.false_eq_true, if_false] at hI2
      simp -dsimp [go_sem, hN, hk]
      refine ⟨by simp [sepD, List.zipIdx], ?_⟩
      refine awp_drawQ 8 mixed (by kernel_rfl) (by kernel_rfl) ?_
      simp -dsimp [go_sem, hN, hw]
      exact ⟨hc, kSet vs vars[n].key vars[n].v, ⟨hI2, by rw [← hI3]; simp [h1]⟩, (Wk.mk (by simp [hh]) (by simp [go_sem]) (by simp [hu, hUnder_ext hu, go_sem, kAV_u2]) (by simp [go_sem]))⟩
    · rw [hk] at hI2
      simp only [Option.isSome_some, if_true] at hI2
      simp -dsimp [go_sem, hN, hk]
      refine ⟨by simp [sepD, List.zipIdx], ?_⟩
      simp -dsimp [go_sem, hN, hw]
      exact ⟨hc, vs, ⟨hI2, by rw [← hI3]; simp [h1]⟩, (Wk.mk (by simp [hh]) (by simp [go_sem]) (by simp [hu, hUnder_ext hu, go_sem, kAV_u2]) (by simp [go_sem]))⟩
  · rw [List.drop_eq_nil_of_le (by omega), firstV] at hI2
    subst hI2
    obtain ⟨x, s1, hB⟩ : ∃ x s1, evE (cfgR fmtI st ft) e (msV vars) = (x, s1) := ⟨_, _, rfl⟩
    have hvo : varsOk vars = true := by rw [← hI3, List.drop_eq_nil_of_le (by omega)]; rfl
    have e1 : evalS fmtI e vars st ft = endS (x, s1) := by unfold evalS; rw [if_pos ⟨hok, hvo⟩, hB]
    rw [e1]
    have hC : rngC (cfgR fmtI st ft) := fun q hq => hI.st q hq
    have hM : rngM (msV vars) := ⟨firstV_all (P := rngV) vars [] hI.vars (by simp), by simp⟩
    have hnd := chkE_nodes e 1 12 hok'.1 (by omega)
    have Y2 := Y.ext [.cells [I 0, I 0, .nils, S em], .cells [Bo false]] (by simp [hUnder, AObj.under, AV.under, underL])
    have hr := c_interp_Eval1 (C := cfgR fmtI st ft) rfl hC e hI.ex Y2 (msV vars) hM (by simp [ascS]) (by simp; omega) (a := h.length + 8) (b := h.length) (d := h.length + 9) (by intro q; simp) (by intro q; simp) (by intro q; simp)
    rw [hB] at hr
    have hpz : s1.puts = [] := by
      have := (evE_ok hC e (msV vars) hI.ex hM (by simp [ascS])).1.puts
      rw [hB] at this
      exact this
    obtain ⟨Hd, hHd⟩ : ∃ Hd : List AV → AObj → AObj → AHeap → AHeap, ∀ vc u1 u2 L, Hd vc u1 u2 L = h ++ (.cells e.x :: .cells ft.c :: .cells [I 0, I 0, S em] :: effZ :: .cells ft.c :: .map (kAV vAV s1.vars) :: .map (kAV vAV s1.own) :: .cells (mC (cfgR fmtI st ft) (h.length + 5) (h.length + 6) (h.length + 10) (h.length + 11) (h.length + 12) s1.q) :: .cells [.ptr (h.length + 7) 0] :: .cells vc :: .arr 47 3 (s1.out.map V.c) :: u1 :: u2 :: L) := ⟨fun vc u1 u2 L => _, fun _ _ _ _ => rfl⟩
    have hw2 : ∀ t vc L E, Wk E ⟨t, Hd vc (.uarr 9 1 (s1.reads.map sRow)) (.uarr 9 1 (s1.puts.map sRow)) L⟩ ⟨t, Hd vc (.arr 9 1 (s1.reads.map sRow)) (.arr 9 1 (s1.puts.map sRow)) L⟩ := fun t vc L E => by
      have d1 := demote_wk E ⟨t, Hd vc (.uarr 9 1 (s1.reads.map sRow)) (.uarr 9 1 (s1.puts.map sRow)) L⟩ (i := h.length + 11) (t := 9) (sz := 1) (rows := s1.reads.map sRow) (by simp [hHd])
      have d2 := demote_wk E ⟨t, Hd vc (.arr 9 1 (s1.reads.map sRow)) (.uarr 9 1 (s1.puts.map sRow)) L⟩ (i := h.length + 12) (t := 9) (sz := 1) (rows := s1.puts.map sRow) (by simp [hHd])
      refine d1.trans ?_
      have e1 : (Hd vc (.uarr 9 1 (s1.reads.map sRow)) (.uarr 9 1 (s1.puts.map sRow)) L).set (h.length + 11) (.arr 9 1 (s1.reads.map sRow)) = Hd vc (.arr 9 1 (s1.reads.map sRow)) (.uarr 9 1 (s1.puts.map sRow)) L := by simp [hHd]
      have e2 : (Hd vc (.arr 9 1 (s1.reads.map sRow)) (.uarr 9 1 (s1.puts.map sRow)) L).set (h.length + 12) (.arr 9 1 (s1.puts.map sRow)) = Hd vc (.arr 9 1 (s1.reads.map sRow)) (.arr 9 1 (s1.puts.map sRow)) L := by simp [hHd]
      rw [e2] at d2
      rw [e1]
      exact d2
    have hw0 : ∀ E : Ent, Wk E ⟨[], h ++ [.cells e.x, .cells ft.c, .cells [I 0, I 0, S em], effZ, .cells ft.c, .map (kAV vAV (firstV vars [])), .map (kAV vAV []), .cells [.slice (st.map Pr.c), Bo ft.all, .slice (ft.reads.map sRow), .slice (ft.writes.map sRow), .mapr (h.length + 5), .mapr (h.length + 6), I 0, I 0, .nils, .nils, .nils, .nils, S em, I 0], .cells [.ptr (h.length + 7) 0], .cells [I 0, I 0, S em]]⟩
        ⟨[], h ++ [.cells e.x, .cells ft.c, .cells [I 0, I 0, S em], effZ, .cells ft.c, .map (kAV vAV (firstV vars [])), .map (kAV vAV []), .cells (mC (cfgR fmtI st ft) (h.length + 5) (h.length + 6) (h.length + 10) (h.length + 11) (h.length + 12) ⟨firstV vars [], [], [], [], [], 0, 0, 0, 0⟩), .cells [.ptr (h.length + 7) 0], .cells [I 0, I 0, S em], .arr 47 3 [], .uarr 9 1 [], .uarr 9 1 []]⟩ := fun E => by
      refine (nilc_wk E _ (p := h.length + 7) (j := 8) (t := 47) (sz := 3) (xs := [.slice (st.map Pr.c), Bo ft.all, .slice (ft.reads.map sRow), .slice (ft.writes.map sRow), .mapr (h.length + 5), .mapr (h.length + 6), I 0, I 0, .nils, .nils, .nils, .nils, S em, I 0]) (by simp) rfl).trans ?_
      simp
      refine (nilcu_wk E _ (p := h.length + 7) (j := 9) (t := 9) (sz := 1) (xs := [.slice (st.map Pr.c), Bo ft.all, .slice (ft.reads.map sRow), .slice (ft.writes.map sRow), .mapr (h.length + 5), .mapr (h.length + 6), I 0, I 0, .own (h.length + 10) 0, .nils, .nils, .nils, S em, I 0]) (by simp) rfl).trans ?_
      simp
      refine (nilcu_wk E _ (p := h.length + 7) (j := 10) (t := 9) (sz := 1) (xs := [.slice (st.map Pr.c), Bo ft.all, .slice (ft.reads.map sRow), .slice (ft.writes.map sRow), .mapr (h.length + 5), .mapr (h.length + 6), I 0, I 0, .own (h.length + 10) 0, .own (h.length + 11) 0, .nils, .nils, S em, I 0]) (by simp) rfl).trans ?_
      simp
      exact .refl _ _
    have hus : ∀ vc, (∀ n, underL n vc = true) → hUnder (Hd vc (.uarr 9 1 (s1.reads.map sRow)) (.uarr 9 1 (s1.puts.map sRow)) []).length (Hd vc (.uarr 9 1 (s1.reads.map sRow)) (.uarr 9 1 (s1.puts.map sRow)) []) = true := fun vc hvc => by
      rw [hHd]
      simp [hUnder_app, hu, hUnder_mono, hUnder_ext hu, go_sem, kAV_u2, MS.q, hvc]
    rcases x with z | v
    · have hr2 : ACalls Tryz.prog 52 [.ptr (h.length + 8) 0, .ptr h.length 0, .ptr (h.length + 9) 0] ((h ++ [.cells e.x, .cells ft.c, .cells [I 0, I 0, S em], effZ, .cells ft.c, .map (kAV vAV (firstV vars [])), .map (kAV vAV []), .cells (mC (cfgR fmtI st ft) (h.length + 5) (h.length + 6) (h.length + 10) (h.length + 11) (h.length + 12) ⟨firstV vars [], [], [], [], [], 0, 0, 0, 0⟩), .cells [.ptr (h.length + 7) 0], .cells [I 0, I 0, S em], .arr 47 3 [], .uarr 9 1 [], .uarr 9 1 []]) ++ [.cells [I 0, I 0, .nils, S em], .cells [Bo false]]) fun r h' => r = endU (.error z) ∧ h' = Hd [I 0, I 0, S em] (.uarr 9 1 (s1.reads.map sRow)) (.uarr 9 1 (s1.puts.map sRow)) [] ++ [.cells [I 0, I 0, .nils, S em], .cells [Bo false]] := by
        rw [hHd]
        exact hr
      have hrun := c_run_of (a := .ptr (h.length + 7) 0) (x := .error z) (by rw [hHd]; simp) (by have := hus [I 0, I 0, S em] (fun n => by simp [underL, AV.under]); rw [hHd] at this ⊢; simpa using this) (fun H => by simp [normL, AV.norm]) hr2
      simp -dsimp [go_sem, hN]
      refine tcall (acalls_wk hw0 hrun) ?_
      rintro r h' ⟨rfl, rfl⟩
      simp -dsimp [go_sem, hN, endC, isE, hHd]
      have hfin := c_machine_finish (C := cfgR fmtI st ft) (m := h.length + 7) (v := h.length + 5) (o := h.length + 6) (io := h.length + 10) (ir := h.length + 11) (ip := h.length + 12) (h := Hd [I 0, I 0, S em] (.arr 9 1 (s1.reads.map sRow)) (.arr 9 1 (s1.puts.map sRow)) [.cells [I z.status, I z.code, .slice [], S z.miss]]) (.error z) s1 (by simp [hHd]) (by simp [hHd]) (by simp [hHd]) (by simp [hHd]) (by simp [hHd]) (by rw [hpz]; simp)
      have hfin2 := acalls_wk (hw2 _ _ _) hfin
      rw [hHd, hHd] at hfin2
      refine tcall hfin2 ?_
      rintro r h' ⟨rfl, rfl⟩
      simp -dsimp [go_sem, hN, endS, V.nil]
      exact ⟨_, .refl _, h, by simp [go_sem], hwk.app0 _, Nat.le_refl _, hu, rfl, rfl⟩
    · have hr2 : ACalls Tryz.prog 52 [.ptr (h.length + 8) 0, .ptr h.length 0, .ptr (h.length + 9) 0] ((h ++ [.cells e.x, .cells ft.c, .cells [I 0, I 0, S em], effZ, .cells ft.c, .map (kAV vAV (firstV vars [])), .map (kAV vAV []), .cells (mC (cfgR fmtI st ft) (h.length + 5) (h.length + 6) (h.length + 10) (h.length + 11) (h.length + 12) ⟨firstV vars [], [], [], [], [], 0, 0, 0, 0⟩), .cells [.ptr (h.length + 7) 0], .cells [I 0, I 0, S em], .arr 47 3 [], .uarr 9 1 [], .uarr 9 1 []]) ++ [.cells [I 0, I 0, .nils, S em], .cells [Bo false]]) fun r h' => r = endU (.ok ()) ∧ h' = Hd v.c (.uarr 9 1 (s1.reads.map sRow)) (.uarr 9 1 (s1.puts.map sRow)) [] ++ [.cells [I 0, I 0, .nils, S em], .cells [Bo false]] := by
        refine ACalls.mono hr ?_
        rintro r h' ⟨rfl, rfl⟩
        refine ⟨rfl, ?_⟩
        rw [hHd]
        simp [setX, MS.q]
      have hrun := c_run_of (a := .ptr (h.length + 7) 0) (x := .ok ()) (by rw [hHd]; simp) (by have := hus v.c (fun n => by simp [underL, AV.under, V.c]); rw [hHd] at this ⊢; simpa using this) (fun H => by simp [normL, AV.norm]) hr2
      simp -dsimp [go_sem, hN]
      refine tcall (acalls_wk hw0 hrun) ?_
      rintro r h' ⟨rfl, rfl⟩
      simp -dsimp [go_sem, hN, endC, isE, hHd]
      refine ⟨rfl, by simp [zs], ?_⟩
      have hfin := c_machine_finish (C := cfgR fmtI st ft) (m := h.length + 7) (v := h.length + 5) (o := h.length + 6) (io := h.length + 10) (ir := h.length + 11) (ip := h.length + 12) (h := Hd v.c (.arr 9 1 (s1.reads.map sRow)) (.arr 9 1 (s1.puts.map sRow)) [.cells [I 0, I 0, .slice [], S em]]) (.ok ()) s1 (by simp [hHd]) (by simp [hHd]) (by simp [hHd]) (by simp [hHd]) (by simp [hHd]) (by rw [hpz]; simp)
      rw [hHd] at hfin
      have hwz := hw2 [(75, Bo false), (17, Bo false), (16, .ptr (h.length + 13) 0), (15, .ptr (h.length + 9) 0), (8, P0 (h.length + 2)), (9, P0 (h.length + 3)), (10, P0 (h.length + 8))] v.c [.cells [I 0, I 0, .slice [], S em]] E
      rw [hHd, hHd] at hwz
      refine AWp.wk (Wk.trans (Wk.mk (by simp [hh]) (by simp [go_sem, zs, MS.q]) (by simp [hu, hUnder_ext hu, go_sem, kAV_u2, zs, MS.q]) (by simp [go_sem])) hwz) ?_
      refine awp_drawK 5 4 [0] mixed (by kernel_rfl) ?_
      simp -dsimp [go_sem, hN]
      refine tkcall_ret hfin ?_
      simp -dsimp [go_sem, hN]
      exact ⟨_, .refl _, h, by simp [go_sem], hwk.app0 _, Nat.le_refl _, hu, rfl, rfl⟩
end Go.Proofs.YtcmbmfmpelnimaaGreatDoor
