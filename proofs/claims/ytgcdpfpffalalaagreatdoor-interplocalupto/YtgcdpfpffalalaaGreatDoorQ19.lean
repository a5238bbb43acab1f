/- Part 19 of a proof: R1, W3, W4, W5, W6, W7 -/
import Derived.Test.YtgcdpfpffalalaaGreatDoorQ09
import Derived.Test.YtgcdpfpffalalaaGreatDoorQ13
import Derived.Test.YtgcdpfpffalalaaGreatDoorQ18
set_option linter.all false

set_option linter.unusedSimpArgs false
set_option linter.unusedVariables false
namespace Go.Proofs.YtgcdpfpffalalaaGreatDoor
open Go Go.Abs Go.Cw

@[simp] theorem any20 : anyT Tryz.prog 20 = true := by kernel_rfl

theorem c_run1_ret {c : Ctx} {h : AHeap} {w : World} (hs : HSim c h w) {i4 i5 : Nat} {vs : Array Value} (ha : RelL c [.ptr i4 0, .ptr i5 0] vs) :
    CallsD Tryz.prog 73 vs .returning w fun e u' w' => (∃ v, e = .returned v) ∧ u' = .returning ∧ ∃ c', HSim c' h w' ∧ (⟨12, c, h, w⟩ : Ent).ok c' h w' := by
  refine callsD_of_wpS Tryz.func73 rfl fun c₀ cs hu => ?_
  have s0 := sim_enter (N := 12) hs ha (by simp)
  refine wpS_seq (wpS_region ?_)
  simp [wpOpsS, go_sem, recoverD, hu, Exit.thenS, Tryz.ntmps73]
  obtain ⟨q1, q2, q3, q4, q5, q6, q7⟩ := c₀
  simp only at hu
  subst hu
  have s1 := s0.put (.refl c) hs (d := some 5) (by simp) (Rel.val Value.nilIface)
  refine wpS_fn (E := ⟨12, c, h, w⟩) (c₀ := ⟨q1, q2, q3, q4, .returning, q6, q7⟩) (U := .returning) (cs := cs) (fn := Tryz.f73) s1 (Ent.ok.refl 12 hs) (H := h) (n0 := h.length) (Nat.le_refl _) ?_
  refine awp_of_wpC _ _ _ ?_
  have hN : (⟨12, c, h, w⟩ : Ent).N = 12 := rfl
  have hu' := hs.hUnder
  simp -dsimp [go_sem, hN, Tryz.f73, hu']
  exact ⟨.tuple [], .refl _, h, rfl, hwk.refl _, Nat.le_refl _, hu', rfl, rfl⟩

@[simp] theorem za74 : zeroAV Tryz.prog 74 = some (.agg [I 0, I 0, .nils, S em]) := by kernel_rfl

theorem c_run1_pan {c : Ctx} {h : AHeap} {w : World} (hs : HSim c h w) {i4 i5 : Nat} {vs : Array Value} (ha : RelL c [.ptr i4 0, .ptr i5 0] vs) {st : List AV} (hst : st.length = 4) (x4 : List AV) (h4 : h[i4]? = some (.cells x4)) (hx4 : x4.length = 4) (x5 : AV) (h5 : h[i5]? = some (.cells [x5])) (h45 : i4 ≠ i5) (hds : st.all AV.one = true)
    {v : Value} (hv : Rel c (.iface 74 (.agg st)) v) :
    CallsD Tryz.prog 73 vs (.panicking [⟨v, false, false⟩]) w fun e u' w' => (∃ v, e = .returned v) ∧ u' = .panicking [⟨v, true, false⟩] ∧ ∃ c', HSim c' ((h.set i4 (.cells st)).set i5 (.cells [Bo true])) w' ∧ (⟨12, c, h, w⟩ : Ent).ok c' ((h.set i4 (.cells st)).set i5 (.cells [Bo true])) w' := by
  refine callsD_of_wpS Tryz.func73 rfl fun c₀ cs hu => ?_
  have s0 := sim_enter (N := 12) hs ha (by simp)
  refine wpS_seq (wpS_region ?_)
  simp [wpOpsS, go_sem, recoverD, hu, Exit.thenS, Tryz.ntmps73]
  have s1 := s0.put (.refl c) hs (d := some 5) (by simp) hv
  refine wpS_fn (E := ⟨12, c, h, w⟩) (c₀ := c₀) (U := .panicking [⟨v, true, false⟩]) (cs := cs) (fn := Tryz.f73) s1 (Ent.ok.refl 12 hs) (H := (h.set i4 (.cells st)).set i5 (.cells [Bo true])) (n0 := h.length) (Nat.le_refl _) ?_
  refine awp_of_wpC _ _ _ ?_
  have hN : (⟨12, c, h, w⟩ : Ent).N = 12 := rfl
  have hu' := hs.hUnder
  have l4 : i4 < h.length := (List.getElem?_eq_some_iff.1 h4).1
  have l5 : i5 < h.length := (List.getElem?_eq_some_iff.1 h5).1
  obtain ⟨a, b, d, e, rfl⟩ : ∃ a b d e, st = [a, b, d, e] := by
    match st, hst with
    | [a, b, d, e], _ => exact ⟨a, b, d, e, rfl⟩
  have hun : underL h.length [a, b, d, e] = true := by
    have := hv.under hs.dom
    simpa [AV.under] using this
  have a4 : (h ++ [AObj.cells [a, b, d, e]])[i4]? = some (.cells x4) := by rw [List.getElem?_append_left l4]; exact h4
  have a5 : ((h ++ [AObj.cells [a, b, d, e]]).set i4 (AObj.cells [a, b, d, e]))[i5]? = some (.cells [x5]) := by rw [List.getElem?_set_ne h45, List.getElem?_append_left l5]; exact h5
  simp -dsimp [go_sem, hN, Tryz.f73, hu', a4, a5, hx4]
  rw [show x4.drop 4 = [] from List.drop_eq_nil_of_le (by omega), a5]
  refine ⟨by simp, .tuple [], .refl _, _, rfl, ?_, ?_, ?_, rfl, rfl⟩
  · rw [List.set_append_left _ _ l4, List.set_append_left _ _ (by simpa using l5)]
    exact hwk.app0 _
  · simp
  · simp only [List.length_set]
    exact hUnder_set (hUnder_set hu' hun) (by simp [AObj.under, underL, AV.under])

def zs : List AV := [I 0, I 0, .slice [], S em]

theorem c_interp_run (m : AV) {g : FuncId} {first caps : List AV} {h : AHeap} {Rg R : AEnd → AHeap → Prop} (hg : ACalls Tryz.prog g (normL (h ++ [.cells [I 0, I 0, .nils, S em], .cells [Bo false]]) (first ++ caps)) (h ++ [.cells [I 0, I 0, .nils, S em], .cells [Bo false]]) Rg)
    (hR : ∀ r h', Rg r h' → h.length + 2 ≤ h'.length → (∃ x4, h'[h.length]? = some (.cells x4) ∧ x4.length = 4) ∧ (∃ x5, h'[h.length + 1]? = some (.cells [x5])) ∧ hUnder h.length (h'.take h.length) = true ∧ match r with
      | .ret _ => R (.ret (.tuple [.agg zs, Bo false])) (h'.take h.length)
      | .panic (.iface 74 (.agg st)) => st.length = 4 ∧ st.all AV.one = true ∧ underL h.length st = true ∧ R (.ret (.tuple [.agg st, Bo true])) (h'.take h.length)
      | _ => False) (hst' : ∀ h' st, Rg (.panic (.iface 74 (.agg st))) h' → ∀ H, normL H st = st) : ACalls Tryz.prog 35 [m, .fn (.func g) first caps] h R := by
  refine ⟨⟨_, Tryz.func35, by kernel_rfl, by kernel_rfl⟩, fun c w vs hs ha => ?_⟩
  refine calls_of_wp_defers Tryz.func35 rfl ?_
  have s0 := sim_enter (N := 10) hs ha (by simp)
  have k0 := Ent.ok.refl 10 hs
  rw [Tryz.ntmps35]
  refine wp_seq (wp_mono ((awp_opsG (E := ⟨10, c, h, w⟩) (Q := fun x e => x = .normal ∧ e = ⟨[(5, .ptr (h.length + 1) 0), (4, .ptr h.length 0), (0, m), (1, .fn (.func g) first caps)], h ++ [.cells [I 0, I 0, .nils, S em], .cells [Bo false]]⟩) ?_) c _ w s0 k0) ?_)
  · have hN : (⟨10, c, h, w⟩ : Ent).N = 10 := rfl
    simp -dsimp [go_sem, hN]
  rintro ex a1 w1 ⟨x', e1, c1, ⟨rfl, rfl⟩, hx, s1, k1⟩
  cases ex <;> simp only [XR] at hx
  show Code.wp _ _ _ a1 w1
  have t4 := s1.tmps 4
  have t5 := s1.tmps 5
  have t1 := s1.tmps 1
  simp [lookT] at t4 t5 t1
  refine wp_seq (wp_region_list ?_)
  have sz : a1.tmps.size = 10 := s1.size
  have df : a1.defers = [] := s1.defers
  obtain ⟨tm, dfs⟩ := a1
  simp only at sz df
  subst df
  simp [wpList, go_sem, Oper.wp, Oper.upon, Instr.makeFunc, sz]
  refine .inl (.inl ?_)
  have s3 := s1.put (.refl c1) s1.hs (d := some 6) (by simp) (Rel.top (Value.func (Fn.func 73) #[] #[tm[4], tm[5]]))
  have E3 : ({ tmps := tm.setIfInBounds 6 (Value.func (Fn.func 73) #[] #[tm[4], tm[5]]), defers := [{ target := Target.fn (Fn.func 73) #[tm[4], tm[5]], args := #[] }] } : Act) = ddf [{ target := Target.fn (Fn.func 73) #[tm[4], tm[5]], args := #[] }] (({ tmps := tm, defers := [] } : Act).put (some 6) (Value.func (Fn.func 73) #[] #[tm[4], tm[5]])) := rfl
  rw [E3]
  have hd4 : ∀ c', c1.le c' → RelL c' [.ptr h.length 0, .ptr (h.length + 1) 0] #[tm[4], tm[5]] := fun c' hle => ⟨rfl, fun j x v hx hv => by
    match j with
    | 0 => simp at hx hv; subst hx; subst hv; simpa [sz] using t4.mono hle
    | 1 => simp at hx hv; subst hx; subst hv; simpa [sz] using t5.mono hle
    | j + 2 => simp at hx⟩
  -- what stands behind the deferred call
  have fin : ∀ (c5 : Ctx) (e5 : Env) (a5 : Act) (w5 : World) (hf : AHeap) (st : List AV) (b : Bool), Sim 10 c5 e5 a5 w5 → (⟨10, c, h, w⟩ : Ent).ok c5 e5.h w5 → lookT e5.t 4 = .ptr h.length 0 → lookT e5.t 5 = .ptr (h.length + 1) 0 →
      e5.h[h.length]? = some (.cells st) → st.length = 4 → underL h.length (normL e5.h st) = true → e5.h[h.length + 1]? = some (.cells [Bo b]) → hwk e5.h hf → hf.length = h.length → hUnder h.length hf = true → R (.ret (.tuple [.agg (normL e5.h st), Bo b])) hf →
      ∃ v, (results Tryz.f35 a5.tmps).run Tryz.prog w5 = .ok v w5 ∧ ∃ r h', R r h' ∧ ∃ x, EndR x r (.returned v) ∧ HSim x h' w5 ∧ (⟨0, c, h, w⟩ : Ent).ok x h' w5 := by
    intro c5 e5 a5 w5 hf st b s5 k5 l4 l5 g4 hst hun g5 hw hl hu hRR
    obtain ⟨v, hv, hr⟩ := results_ok (E := ⟨10, c, h, w⟩) (P := Tryz.prog) s5 Tryz.f35 (by
      simp [Tryz.f35, go_sem, l4, l5, g4, g5, hst])
    have hval : (mkRes ((Tryz.f35).results.toList.map fun r => (resSV Tryz.prog e5 r).val)) = .tuple [.agg st, Bo b] := by
      have ht : st.take 4 = st := List.take_of_length_le (by omega)
      simp [Tryz.f35, go_sem, l4, l5, g4, g5, ht]
    rw [hval] at hr
    obtain ⟨c6, q1, q2, q3⟩ := finish (E := ⟨10, c, h, w⟩) s5 k5 hr (r' := .tuple [.agg (normL e5.h st), Bo b]) (h' := hf) (by simp [AV.norm, normL]) (by simp [AV.under, underL, hl]; exact hun) hw (by simp [hl]) (by rw [hl]; exact hu)
    exact ⟨v, hv, _, hf, hRR, c6, q3, q1, q2.withN 0⟩
  have k3 : (⟨10, c1, h ++ [.cells [I 0, I 0, .nils, S em], .cells [Bo false]], w1⟩ : Ent).ok c1 (h ++ [.cells [I 0, I 0, .nils, S em], .cells [Bo false]]) w1 := Ent.ok.refl 10 s1.hs
  refine wp_seq (wp_region_list (wpList_ddf (Q := conc ⟨10, c1, h ++ [.cells [I 0, I 0, .nils, S em], .cells [Bo false]], w1⟩ fun x e => match x with
    | .normal => (∃ v, Rg (.ret v) e.h) ∧ lookT e.t 4 = .ptr h.length 0 ∧ lookT e.t 5 = .ptr (h.length + 1) 0
    | .panic v => Rg (.panic v) e.h ∧ lookT e.t 4 = .ptr h.length 0 ∧ lookT e.t 5 = .ptr (h.length + 1) 0
    | _ => False) ?_ ((opsG_sound (E := ⟨10, c1, h ++ [.cells [I 0, I 0, .nils, S em], .cells [Bo false]], w1⟩) _ [] _ rfl ?_) c1 _ w1 s3 k3)))
  · rintro x a w2 ⟨x', e2, c2, hq, hx, s2, k2⟩
    have hle : c1.le c2 := k2.ext
    have hlen : h.length + 2 ≤ e2.h.length := by simpa using k2.len
    cases x' with
    | normal =>
      cases x <;> simp only [XR] at hx
      obtain ⟨⟨v, hv⟩, l4, l5⟩ := hq
      obtain ⟨⟨x4, g4, lx4⟩, ⟨x5, g5⟩, hu2, hRR⟩ := hR _ _ hv hlen
      show Code.wp _ _ _ _ _
      have n4 : h.length < e2.h.length := by omega
      have n5 : h.length + 1 < e2.h.length := by omega
      refine wp_seq (wp_region_list (wpList_ddf (Q := conc ⟨10, c2, e2.h, w2⟩ fun x e => x = .normal ∧ e.h = (e2.h.set h.length (.cells [I 0, I 0, .nils, S em])).set (h.length + 1) (.cells [Bo false]) ∧ lookT e.t 4 = .ptr h.length 0 ∧ lookT e.t 5 = .ptr (h.length + 1) 0) ?_ ((opsG_sound (E := ⟨10, c2, e2.h, w2⟩) _ [] _ rfl ?_) c2 _ w2 s2 (Ent.ok.refl 10 s2.hs))))
      · rintro x a w3 ⟨x', e3, c3, ⟨rfl, h3, l4', l5'⟩, hx, s3', k3'⟩
        cases x <;> simp only [XR] at hx
        show Code.wp _ _ _ _ _
        refine wp_ret ?_
        have hle3 : c1.le c3 := hle.trans k3'.ext
        show Leaves _ _ _ _ (a.defers ++ _) _ _
        rw [s3'.defers, List.nil_append]
        refine leaves_cons (f := 73) (args := #[tm[4], tm[5]]) (by simp) (by simp [invoke]) ((c_run1_ret s3'.hs (hd4 c3 hle3)).mono ?_)
        rintro en u' w4 ⟨⟨v4, rfl⟩, rfl, c4, s4, k4⟩
        have sim4 : Sim 10 c4 e3 a w4 := ⟨s3'.defers, s3'.size, fun i => (s3'.tmps i).mono k4.ext, s4⟩
        have e3a : e3.h[h.length]? = some (.cells [I 0, I 0, .nils, S em]) := by rw [h3]; simp [n4]
        have e3b : e3.h[h.length + 1]? = some (.cells [Bo false]) := by rw [h3]; simp [n5]
        have kk : (⟨10, c, h, w⟩ : Ent).ok c4 e3.h w4 := ((k1.trans k2).trans k3').trans k4
        obtain ⟨v5, h5, h6⟩ := fin c4 e3 a w4 (e2.h.take h.length) [I 0, I 0, .nils, S em] false sim4 kk l4' l5' e3a rfl (by simp [normL, AV.norm, underL, AV.under]) e3b (by
          rw [h3]
          exact hwk_take2 (by omega)) (by simp; omega) hu2 (by simpa [normL, AV.norm, zs] using hRR)
        exact ⟨v5, h5, h6⟩
      · have hN : (⟨10, c2, e2.h, w2⟩ : Ent).N = 10 := rfl
        have g5' : (e2.h.set h.length (AObj.cells [I 0, I 0, .nils, S em]))[h.length + 1]? = some (.cells [x5]) := by rw [List.getElem?_set_ne (by omega)]; exact g5
        simp -dsimp [go_sem, hN, l4, l5, g4, g5, lx4]
        try rw [show x4.drop 4 = [] from List.drop_eq_nil_of_le (by omega)]
        try simp -dsimp [go_sem, g5', l4, l5]
    | panic v =>
      obtain ⟨hv, l4, l5⟩ := hq
      obtain ⟨⟨x4, g4, lx4⟩, ⟨x5, g5⟩, hu2, hRR⟩ := hR _ _ hv hlen
      split at hRR
      · rename_i he; cases he
      · rename_i st he
        cases he
        obtain ⟨hst, hone, hun, hRR⟩ := hRR
        cases x with
        | panic ch =>
          cases ch with
          | nil => simp [XR] at hx
          | cons p l =>
            cases l with
            | cons => simp [XR] at hx
            | nil =>
              obtain ⟨u, rc, gx⟩ := p
              cases rc <;> cases gx <;> simp only [XR] at hx
              show Leaves _ _ _ _ (a.defers ++ _) _ _
              rw [s2.defers, List.nil_append]
              refine leaves_cons (f := 73) (args := #[tm[4], tm[5]]) (by simp) (by simp [invoke]) ((c_run1_pan s2.hs (hd4 c2 hle) hst x4 g4 lx4 x5 g5 (by omega) hone hx).mono ?_)
              rintro en u' w4 ⟨⟨v4, rfl⟩, rfl, c4, s4, k4⟩
              have n4 : h.length < e2.h.length := by omega
              have n5 : h.length + 1 < e2.h.length := by omega
              have sim4 : Sim 10 c4 ⟨e2.t, (e2.h.set h.length (.cells st)).set (h.length + 1) (.cells [Bo true])⟩ a w4 := ⟨s2.defers, s2.size, fun i => (s2.tmps i).mono k4.ext, s4⟩
              have kk : (⟨10, c, h, w⟩ : Ent).ok c4 ((e2.h.set h.length (.cells st)).set (h.length + 1) (.cells [Bo true])) w4 := (k1.trans k2).trans k4
              have hnorm : normL ((e2.h.set h.length (.cells st)).set (h.length + 1) (.cells [Bo true])) st = st := hst' _ _ hv _
              obtain ⟨v5, h5, h6⟩ := fin c4 ⟨e2.t, (e2.h.set h.length (.cells st)).set (h.length + 1) (.cells [Bo true])⟩ a w4 (e2.h.take h.length) st true sim4 kk l4 l5 (by simp [n4]) hst (by rw [hnorm]; exact hun) (by simp [n5]) (hwk_take2 (by omega)) (by simp; omega) hu2 (by rw [hnorm]; exact hRR)
              exact ⟨v5, h5, h6⟩
        | _ => simp [XR] at hx
      · exact hRR.elim
    | _ => exact hq.elim
  · have hN : (⟨10, c1, h ++ [.cells [I 0, I 0, .nils, S em], .cells [Bo false]], w1⟩ : Ent).N = 10 := rfl
    simp -dsimp [go_sem, hN]
    refine tcall hg fun r h' hr => ?_
    cases r <;> simp [go_sem, hr]
    exact ⟨_, hr⟩
end Go.Proofs.YtgcdpfpffalalaaGreatDoor

set_option linter.unusedSimpArgs false
set_option linter.unusedVariables false
set_option maxRecDepth 4000
namespace Go.Proofs.YtgcdpfpffalalaaGreatDoor
open Go Go.Abs Go.Cw
attribute [go_sem] eqVal eqP eqB eqA fitA

theorem c_ref06_Same (l l' : List Pr) : APure Tryz.prog 42 [.slice (l.map Pr.c), .slice (l'.map Pr.c)] (Bo (sameL eqP l l')) := by
  refine apure_introB Tryz.func42 rfl (by kernel_rfl) (by simp [Tryz.ntmps42]) rfl ?_
  intro E h hN hh hu hb
  rw [Tryz.ntmps42] at hN
  refine awp_of_wpC _ _ _ ?_
  simp [go_sem] at hb
  simp -dsimp [go_sem, hN]
  refine cnd (fun h0 => ?_) (fun h0 => ?_) <;> simp at h0
  · simp -dsimp [go_sem, hN]
    exact sameL_len (by omega)
  simp -dsimp [go_sem, hN]
  refine awp_loopN l.length (fun n => sameL eqP (l.drop n) (l'.drop n) = sameL eqP l l') (fun n => ⟨[(0, .slice (l.map Pr.c)), (1, .slice (l'.map Pr.c)), (5, I n)], h⟩) (by simp) (Wk.mk (by simp [hh]) (by simp [go_sem]) (by simp [hu, hUnder_ext hu, go_sem]) (by simp [go_sem])) ?_
  intro n hn hI
  have hw := wrapS hn hb.1.1
  simp -dsimp [go_sem, hN]
  refine cnd (fun hc => ?_) (fun hc => ?_) <;> simp at hc
  · have hc' : n < l'.length := by omega
    rw [drop_next hc, drop_next hc', sameL] at hI
    simp -dsimp [go_sem, hN, hc, hc']
    refine awp_drawQ 8 mixed (by kernel_rfl) (by kernel_rfl) ?_
    simp -dsimp [go_sem, hN, hc, hc']
    refine cnd (fun hg => ?_) (fun hg => ?_) <;> simp at hg
    · simp -dsimp [go_sem, hN]
      rw [← hI]
      simp [eqP, eqVal]
      grind
    · simp -dsimp [go_sem, hN, hw]
      refine ⟨hc, ?_, (Wk.mk (by simp [hh]) (by simp [go_sem]) (by simp [hu, hUnder_ext hu, go_sem]) (by simp [go_sem]))⟩
      rw [← hI]
      simp [eqP, eqVal, hg]
  · rw [List.drop_eq_nil_of_le (by omega), List.drop_eq_nil_of_le (by omega), sameL] at hI
    simp -dsimp [go_sem, hN, ← hI]

theorem c_sameKeys (l l' : List Bytes) : APure Tryz.prog 41 [.slice (l.map sRow), .slice (l'.map sRow)] (Bo (sameL eqB l l')) := by
  refine apure_introB Tryz.func41 rfl (by kernel_rfl) (by simp [Tryz.ntmps41]) rfl ?_
  intro E h hN hh hu hb
  rw [Tryz.ntmps41] at hN
  refine awp_of_wpC _ _ _ ?_
  simp [go_sem] at hb
  simp -dsimp [go_sem, hN]
  refine cnd (fun h0 => ?_) (fun h0 => ?_) <;> simp at h0
  · simp -dsimp [go_sem, hN]
    exact sameL_len (by omega)
  simp -dsimp [go_sem, hN]
  refine awp_loopN l.length (fun n => sameL eqB (l.drop n) (l'.drop n) = sameL eqB l l') (fun n => ⟨[(0, .slice (l.map sRow)), (1, .slice (l'.map sRow)), (5, I n)], h⟩) (by simp) (Wk.mk (by simp [hh]) (by simp [go_sem]) (by simp [hu, hUnder_ext hu, go_sem]) (by simp [go_sem])) ?_
  intro n hn hI
  have hw := wrapS hn hb.1.1
  simp -dsimp [go_sem, hN]
  refine cnd (fun hc => ?_) (fun hc => ?_) <;> simp at hc
  · have hc' : n < l'.length := by omega
    rw [drop_next hc, drop_next hc', sameL] at hI
    simp -dsimp [go_sem, hN, hc, hc']
    refine awp_drawQ 8 mixed (by kernel_rfl) (by kernel_rfl) ?_
    simp -dsimp [go_sem, hN, hc, hc']
    refine cnd (fun hg => ?_) (fun hg => ?_) <;> simp at hg
    · simp -dsimp [go_sem, hN]
      rw [← hI]
      simp [eqB, eqVal]
      grind
    · simp -dsimp [go_sem, hN, hw]
      refine ⟨hc, ?_, (Wk.mk (by simp [hh]) (by simp [go_sem]) (by simp [hu, hUnder_ext hu, go_sem]) (by simp [go_sem]))⟩
      rw [← hI]
      simp [eqB, eqVal, hg]
  · rw [List.drop_eq_nil_of_le (by omega), List.drop_eq_nil_of_le (by omega), sameL] at hI
    simp -dsimp [go_sem, hN, ← hI]

theorem c_Equal_V (l l' : List V) : APure Tryz.prog 57 [.slice (l.map V.c), .slice (l'.map V.c)] (Bo (sameL eqVal l l')) := by
  refine apure_introB Tryz.func57 rfl (by kernel_rfl) (by simp [Tryz.ntmps57]) rfl ?_
  intro E h hN hh hu hb
  rw [Tryz.ntmps57] at hN
  refine awp_of_wpC _ _ _ ?_
  simp [go_sem] at hb
  simp -dsimp [go_sem, hN]
  refine cnd (fun h0 => ?_) (fun h0 => ?_) <;> simp at h0
  · simp -dsimp [go_sem, hN]
    exact sameL_len (by omega)
  simp -dsimp [go_sem, hN]
  refine awp_loopN l.length (fun n => sameL eqVal (l.drop n) (l'.drop n) = sameL eqVal l l') (fun n => ⟨[(0, .slice (l.map V.c)), (1, .slice (l'.map V.c)), (12, I l.length), (13, I n)], h⟩) (by simp) (Wk.mk (by simp [hh]) (by simp [go_sem]) (by simp [hu, hUnder_ext hu, go_sem]) (by simp [go_sem])) ?_
  intro n hn hI
  have hw := wrapS hn hb.1.1
  simp -dsimp [go_sem, hN]
  refine cnd (fun hc => ?_) (fun hc => ?_) <;> simp at hc
  · have hc' : n < l'.length := by omega
    rw [drop_next hc, drop_next hc', sameL] at hI
    simp -dsimp [go_sem, hN, hc, hc']
    refine awp_drawQ 8 mixed (by kernel_rfl) (by kernel_rfl) ?_
    simp -dsimp [go_sem, hN, hc, hc']
    refine cnd (fun hg => ?_) (fun hg => ?_) <;> simp at hg
    · simp -dsimp [go_sem, hN]
      rw [← hI]
      simp [eqVal, eqVal]
      grind
    · simp -dsimp [go_sem, hN, hw]
      refine ⟨hc, ?_, (Wk.mk (by simp [hh]) (by simp [go_sem]) (by simp [hu, hUnder_ext hu, go_sem]) (by simp [go_sem]))⟩
      rw [← hI]
      simp [eqVal, eqVal, hg]
  · rw [List.drop_eq_nil_of_le (by omega), List.drop_eq_nil_of_le (by omega), sameL] at hI
    simp -dsimp [go_sem, hN, ← hI]

theorem c_Equal_S (l l' : List Bytes) : APure Tryz.prog 58 [.slice (l.map sRow), .slice (l'.map sRow)] (Bo (sameL eqB l l')) := by
  refine apure_introB Tryz.func58 rfl (by kernel_rfl) (by simp [Tryz.ntmps58]) rfl ?_
  intro E h hN hh hu hb
  rw [Tryz.ntmps58] at hN
  refine awp_of_wpC _ _ _ ?_
  simp [go_sem] at hb
  simp -dsimp [go_sem, hN]
  refine cnd (fun h0 => ?_) (fun h0 => ?_) <;> simp at h0
  · simp -dsimp [go_sem, hN]
    exact sameL_len (by omega)
  simp -dsimp [go_sem, hN]
  refine awp_loopN l.length (fun n => sameL eqB (l.drop n) (l'.drop n) = sameL eqB l l') (fun n => ⟨[(0, .slice (l.map sRow)), (1, .slice (l'.map sRow)), (12, I l.length), (13, I n)], h⟩) (by simp) (Wk.mk (by simp [hh]) (by simp [go_sem]) (by simp [hu, hUnder_ext hu, go_sem]) (by simp [go_sem])) ?_
  intro n hn hI
  have hw := wrapS hn hb.1.1
  simp -dsimp [go_sem, hN]
  refine cnd (fun hc => ?_) (fun hc => ?_) <;> simp at hc
  · have hc' : n < l'.length := by omega
    rw [drop_next hc, drop_next hc', sameL] at hI
    simp -dsimp [go_sem, hN, hc, hc']
    refine awp_drawQ 8 mixed (by kernel_rfl) (by kernel_rfl) ?_
    simp -dsimp [go_sem, hN, hc, hc']
    refine cnd (fun hg => ?_) (fun hg => ?_) <;> simp at hg
    · simp -dsimp [go_sem, hN]
      rw [← hI]
      simp [eqB, eqVal]
      grind
    · simp -dsimp [go_sem, hN, hw]
      refine ⟨hc, ?_, (Wk.mk (by simp [hh]) (by simp [go_sem]) (by simp [hu, hUnder_ext hu, go_sem]) (by simp [go_sem]))⟩
      rw [← hI]
      simp [eqB, eqVal, hg]
  · rw [List.drop_eq_nil_of_le (by omega), List.drop_eq_nil_of_le (by omega), sameL] at hI
    simp -dsimp [go_sem, hN, ← hI]

theorem c_Equal_P (l l' : List Pr) : APure Tryz.prog 59 [.slice (l.map Pr.c), .slice (l'.map Pr.c)] (Bo (sameL eqP l l')) := by
  refine apure_introB Tryz.func59 rfl (by kernel_rfl) (by simp [Tryz.ntmps59]) rfl ?_
  intro E h hN hh hu hb
  rw [Tryz.ntmps59] at hN
  refine awp_of_wpC _ _ _ ?_
  simp [go_sem] at hb
  simp -dsimp [go_sem, hN]
  refine cnd (fun h0 => ?_) (fun h0 => ?_) <;> simp at h0
  · simp -dsimp [go_sem, hN]
    exact sameL_len (by omega)
  simp -dsimp [go_sem, hN]
  refine awp_loopN l.length (fun n => sameL eqP (l.drop n) (l'.drop n) = sameL eqP l l') (fun n => ⟨[(0, .slice (l.map Pr.c)), (1, .slice (l'.map Pr.c)), (12, I l.length), (13, I n)], h⟩) (by simp) (Wk.mk (by simp [hh]) (by simp [go_sem]) (by simp [hu, hUnder_ext hu, go_sem]) (by simp [go_sem])) ?_
  intro n hn hI
  have hw := wrapS hn hb.1.1
  simp -dsimp [go_sem, hN]
  refine cnd (fun hc => ?_) (fun hc => ?_) <;> simp at hc
  · have hc' : n < l'.length := by omega
    rw [drop_next hc, drop_next hc', sameL] at hI
    simp -dsimp [go_sem, hN, hc, hc']
    refine awp_drawQ 8 mixed (by kernel_rfl) (by kernel_rfl) ?_
    simp -dsimp [go_sem, hN, hc, hc']
    refine cnd (fun hg => ?_) (fun hg => ?_) <;> simp at hg
    · simp -dsimp [go_sem, hN]
      rw [← hI]
      simp [eqP, eqVal]
      grind
    · simp -dsimp [go_sem, hN, hw]
      refine ⟨hc, ?_, (Wk.mk (by simp [hh]) (by simp [go_sem]) (by simp [hu, hUnder_ext hu, go_sem]) (by simp [go_sem]))⟩
      rw [← hI]
      simp [eqP, eqVal, hg]
  · rw [List.drop_eq_nil_of_le (by omega), List.drop_eq_nil_of_le (by omega), sameL] at hI
    simp -dsimp [go_sem, hN, ← hI]

set_option maxHeartbeats 1000000 in
theorem c_ref15_Same (a b : Eff) : APure Tryz.prog 14 [.agg a.c, .agg b.c] (Bo (sameE a b)) := by
  refine apure_introB Tryz.func14 rfl (by kernel_rfl) (by simp [Tryz.ntmps14]) rfl ?_
  intro E h hN hh hu hb
  rw [Tryz.ntmps14] at hN
  refine awp_of_wpC _ _ _ ?_
  simp [go_sem] at hb
  simp -dsimp [go_sem, hN]
  refine awp_drawG 7 mixed (by kernel_rfl) ?_
  simp -dsimp [go_sem, hN]
  refine ⟨by simp [sepD, List.zipIdx], ?_⟩
  refine cnd (fun h0 => ?_) (fun h0 => ?_) <;> simp at h0
  · simp -dsimp [go_sem, hN]
    have : sameE a b = false := by
      rcases h0 with (h0 | h0) | h0
      · simp [sameE, h0]
      · simp [sameE, h0]
      · simp [sameE, sameL_len (f := eqVal) (l := a.out) (l' := b.out) (by omega)]
    rw [this]
  simp -dsimp [go_sem, hN]
  refine awp_loopN a.out.length (fun n => sameL eqVal (a.out.drop n) (b.out.drop n) = sameL eqVal a.out b.out) (fun n => ⟨[(2, .ptr h.length 0), (3, .ptr (h.length + 1) 0), (5, .ptr (h.length + 2) 0), (6, .ptr (h.length + 3) 0), (7, I n)], h ++ [.cells a.c, .cells b.c, .cells [I a.status, I a.code, .slice (a.out.map V.c)], .cells [I b.status, I b.code, .slice (b.out.map V.c)]]⟩) (by simp) (Wk.mk (by simp [hh]) (by simp [go_sem]) (by simp [hu, hUnder_ext hu, go_sem]) (by simp [go_sem])) ?_
  intro n hn hI
  have hw := wrapS hn hb.1.1.1
  simp -dsimp [go_sem, hN]
  refine cnd (fun hc => ?_) (fun hc => ?_) <;> simp at hc
  · have hc' : n < b.out.length := by omega
    rw [drop_next hc, drop_next hc', sameL] at hI
    simp -dsimp [go_sem, hN, hc, hc']
    refine awp_drawQ 10 mixed (by kernel_rfl) (by kernel_rfl) ?_
    simp -dsimp [go_sem, hN, hc, hc']
    refine cnd (fun hg => ?_) (fun hg => ?_) <;> simp at hg
    · simp -dsimp [go_sem, hN]
      have : sameL eqVal a.out b.out = false := by
        rw [← hI]
        simp [eqVal]
        grind
      simp [sameE, this]
    · simp -dsimp [go_sem, hN, hw]
      refine ⟨hc, ?_, (Wk.mk (by simp [hh]) (by simp [go_sem]) (by simp [hu, hUnder_ext hu, go_sem]) (by simp [go_sem]))⟩
      rw [← hI]
      simp [eqVal, hg]
  · rw [List.drop_eq_nil_of_le (by omega), List.drop_eq_nil_of_le (by omega), sameL] at hI
    simp -dsimp [go_sem, hN]
    refine tcall_pure (c_sameKeys _ _) ?_
    simp -dsimp [go_sem, hN]
    refine tgcall_pure (c_sameKeys _ _) (by simp) ?_
    simp -dsimp [go_sem, hN]
    refine tgcall_pure (c_ref06_Same _ _) (by simp) ?_
    simp -dsimp [go_sem, hN, sameE, h0, ← hI]

theorem c_interp_Same (a b : Eff) : APure Tryz.prog 26 [.agg a.c, .agg b.c] (Bo (sameE a b)) := by
  refine apure_introB Tryz.func26 rfl (by kernel_rfl) (by simp [Tryz.ntmps26]) rfl ?_
  intro E h hN hh hu hb
  rw [Tryz.ntmps26] at hN
  refine awp_of_wpC _ _ _ ?_
  simp [go_sem] at hb
  simp -dsimp [go_sem, hN]
  refine tgcall_pure (c_Equal_V _ _) (by simp) ?_
  simp -dsimp [go_sem, hN]
  refine tgcall_pure (c_Equal_S _ _) (by simp) ?_
  simp -dsimp [go_sem, hN]
  refine tgcall_pure (c_Equal_S _ _) (by simp) ?_
  simp -dsimp [go_sem, hN]
  refine tgcall_pure (c_Equal_P _ _) (by simp) ?_
  simp -dsimp [go_sem, hN, sameE]

theorem c_ref15_Has (l : List Bytes) (k : Bytes) : APure Tryz.prog 18 [.slice (l.map sRow), S k] (Bo (hasK l k)) := by
  refine apure_introB Tryz.func18 rfl (by kernel_rfl) (by simp [Tryz.ntmps18]) rfl ?_
  intro E h hN hh hu hb
  rw [Tryz.ntmps18] at hN
  refine awp_of_wpC _ _ _ ?_
  simp [go_sem] at hb
  simp -dsimp [go_sem, hN]
  refine awp_loopN l.length (fun n => hasK (l.drop n) k = hasK l k) (fun n => ⟨[(0, .slice (l.map sRow)), (1, S k), (5, I n)], h⟩) (by simp) (Wk.mk (by simp [hh]) (by simp [go_sem]) (by simp [hu, hUnder_ext hu, go_sem]) (by simp [go_sem])) ?_
  intro n hn hI
  have hw := wrapS hn hb.1.1
  simp -dsimp [go_sem, hN]
  refine cnd (fun hc => ?_) (fun hc => ?_) <;> simp at hc
  · rw [drop_next hc, hasK, anyL] at hI
    simp -dsimp [go_sem, hN, hc]
    refine cnd (fun hg => ?_) (fun hg => ?_) <;> simp at hg
    · simp -dsimp [go_sem, hN]
      simp [← hI, hg]
    · simp -dsimp [go_sem, hN, hw]
      exact ⟨hc, by simpa [hg, hasK] using hI, (Wk.mk (by simp [hh]) (by simp [go_sem]) (by simp [hu, hUnder_ext hu, go_sem]) (by simp [go_sem]))⟩
  · rw [List.drop_eq_nil_of_le (by omega), hasK, anyL] at hI
    simp -dsimp [go_sem, hN, ← hI]

theorem c_Index_S (l : List Bytes) (k : Bytes) : APure Tryz.prog 191 [.slice (l.map sRow), S k] (I (idxOf (fun x => decide (k = x)) l)) := by
  refine apure_introB Tryz.func191 rfl (by kernel_rfl) (by simp [Tryz.ntmps191]) rfl ?_
  intro E h hN hh hu hb
  rw [Tryz.ntmps191] at hN
  refine awp_of_wpC _ _ _ ?_
  simp [go_sem] at hb
  simp -dsimp [go_sem, hN]
  refine awp_loopN l.length (fun n => idxFrom (fun x => decide (k = x)) n (l.drop n) = idxOf (fun x => decide (k = x)) l) (fun n => ⟨[(0, .slice (l.map sRow)), (1, S k), (7, I l.length), (8, I n)], h⟩) (by simp [idxOf]) (Wk.mk (by simp [hh]) (by simp [go_sem]) (by simp [hu, hUnder_ext hu, go_sem]) (by simp [go_sem])) ?_
  intro n hn hI
  have hw := wrapS hn hb.1.1
  simp -dsimp [go_sem, hN]
  refine cnd (fun hc => ?_) (fun hc => ?_) <;> simp at hc
  · rw [drop_next hc, idxFrom] at hI
    simp -dsimp [go_sem, hN, hc]
    refine cnd (fun hg => ?_) (fun hg => ?_) <;> simp at hg
    · simp -dsimp [go_sem, hN]
      simpa [hg] using hI
    · simp -dsimp [go_sem, hN, hw]
      exact ⟨hc, by simpa [hg] using hI, (Wk.mk (by simp [hh]) (by simp [go_sem]) (by simp [hu, hUnder_ext hu, go_sem]) (by simp [go_sem]))⟩
  · rw [List.drop_eq_nil_of_le (by omega), idxFrom] at hI
    simp -dsimp [go_sem, hN, ← hI]

theorem c_Contains_S (l : List Bytes) (k : Bytes) : APure Tryz.prog 140 [.slice (l.map sRow), S k] (Bo (hasK l k)) := by
  refine apure_introB Tryz.func140 rfl (by kernel_rfl) (by simp [Tryz.ntmps140]) rfl ?_
  intro E h hN hh hu hb
  rw [Tryz.ntmps140] at hN
  refine awp_of_wpC _ _ _ ?_
  simp -dsimp [go_sem, hN]
  refine tcall_pure (c_Index_S l k) ?_
  simp -dsimp [go_sem, hN, idxOf_nonneg]
  simp [hasK, eq_comm]
end Go.Proofs.YtgcdpfpffalalaaGreatDoor

set_option linter.unusedSimpArgs false
set_option linter.unusedVariables false
set_option maxRecDepth 4000
namespace Go.Proofs.YtgcdpfpffalalaaGreatDoor
open Go Go.Abs Go.Cw

theorem c_lexer_letter (c : Int) : APure Tryz.prog 204 [.val (.int .i32 c)] (Bo (ltr c)) := by
  refine apure_introB Tryz.func204 rfl (by kernel_rfl) (by simp [Tryz.ntmps204]) rfl ?_
  intro E h hN hh hu hb
  rw [Tryz.ntmps204] at hN
  refine awp_of_wpC _ _ _ ?_
  simp -dsimp [go_sem, hN, ltr]

theorem c_lexer_word (s : Bytes) : APure Tryz.prog 205 [S s] (I (wordLen (bl s))) := by
  refine apure_introB Tryz.func205 rfl (by kernel_rfl) (by simp [Tryz.ntmps205]) rfl ?_
  intro E h hN hh hu hb
  rw [Tryz.ntmps205] at hN
  refine awp_of_wpC _ _ _ ?_
  simp [go_sem] at hb
  simp -dsimp [go_sem, hN]
  refine awp_loopN s.size (fun n => n + wordLen ((bl s).drop n) = wordLen (bl s)) (fun n => ⟨[(0, S s), (6, P0 h.length)], h ++ [.iter s n]⟩) (by simp) (Wk.mk (by simp [hh]) (by simp [go_sem]) (by simp [hu, hUnder_ext hu, go_sem]) (by simp [go_sem])) ?_
  intro n hn hI
  have hw := wrapS hn hb
  simp -dsimp [go_sem, hN]
  by_cases hc : n < s.size
  · rw [bdrop hc, wordLen] at hI
    simp -dsimp [go_sem, hN, hc]
    refine tcall_pure (c_lexer_letter _) ?_
    simp -dsimp [go_sem, hN]
    by_cases h8 : (bAt s n).toNat < 128
    · simp only [dec_lo hc h8]
      refine ⟨by grind, cnd (fun hg => ?_) (fun hg => ?_)⟩
      · have hg' : wordI ((bAt s n).toNat : Int) = false := by simp [wordI] at hg ⊢; grind
        simp -dsimp [go_sem, hN]
        rw [← hI]
        simp [hg']
      · have hg' : wordI ((bAt s n).toNat : Int) = true := by simp [wordI] at hg ⊢; grind
        simp -dsimp [go_sem, hN, hw]
        exact ⟨hc, by rw [if_pos hg'] at hI; omega, (Wk.mk (by simp [hh]) (by simp [go_sem]) (by simp [hu, hUnder_ext hu, go_sem]) (by simp [go_sem]))⟩
    · have h9 := dec_hi hc h8
      have hg' : wordI ((bAt s n).toNat : Int) = false := by simp [wordI, ltr]; omega
      have hl : ltr ((Utf8.decode s n).1 : Int) = false := by simp [ltr]; omega
      refine ⟨by grind, cnd (fun hg => ?_) (fun hg => ?_)⟩
      · simp -dsimp [go_sem, hN]
        rw [← hI]
        simp [hg']
      · simp [hl] at hg
        omega
  · rw [bend hc, wordLen] at hI
    simp -dsimp [go_sem, hN, hc]
    have : wordLen (bl s) = s.size := by omega
    simp [this]

theorem c_lexer_IsKeyword (s : Bytes) : APure Tryz.prog 206 [S s] (Bo (kw s)) := by
  refine apure_introB Tryz.func206 rfl (by kernel_rfl) (by simp [Tryz.ntmps206]) rfl ?_
  intro E h hN hh hu hb
  rw [Tryz.ntmps206] at hN
  refine awp_of_wpC _ _ _ ?_
  simp -dsimp [go_sem, hN]
  iterate 25
    refine cnd (fun hg => ?_) (fun hg => ?_)
    · simp at hg
      subst hg
      simp -dsimp [go_sem, hN]
      rfl
    simp -dsimp [go_sem, hN]
    try simp at hg
  simp [kw, *]

theorem c_ast_plain (s : Bytes) : APure Tryz.prog 172 [S s] (Bo (plainS s)) := by
  refine apure_introB Tryz.func172 rfl (by kernel_rfl) (by simp [Tryz.ntmps172]) rfl ?_
  intro E h hN hh hu hb
  rw [Tryz.ntmps172] at hN
  refine awp_of_wpC _ _ _ ?_
  simp [go_sem] at hb
  simp -dsimp [go_sem, hN]
  refine awp_loopN s.size (fun n => allL okB ((bl s).drop n) = allL okB (bl s)) (fun n => ⟨[(0, S s), (3, I n)], h⟩) (by simp) (Wk.mk (by simp [hh]) (by simp [go_sem]) (by simp [hu, hUnder_ext hu, go_sem]) (by simp [go_sem])) ?_
  intro n hn hI
  have hw := wrapS hn hb
  simp -dsimp [go_sem, hN]
  refine cnd (fun hc => ?_) (fun hc => ?_) <;> simp at hc
  · rw [bdrop hc, allL] at hI
    simp -dsimp [go_sem, hN, hc]
    refine cnd (fun hg => ?_) (fun hg => ?_)
    · simp -dsimp [go_sem, hN]
      simp [plainS, ← hI, okB, hg]
    · simp -dsimp [go_sem, hN, hw]
      exact ⟨hc, by simpa [okB, hg] using hI, (Wk.mk (by simp [hh]) (by simp [go_sem]) (by simp [hu, hUnder_ext hu, go_sem]) (by simp [go_sem]))⟩
  · rw [bend (by omega), allL] at hI
    simp -dsimp [go_sem, hN, plainS, ← hI]

theorem c_ast_Arity (op : Int) : APure Tryz.prog 171 [I op] (I (arity op)) := by
  refine apure_introB Tryz.func171 rfl (by kernel_rfl) (by simp [Tryz.ntmps171]) rfl ?_
  intro E h hN hh hu hb
  rw [Tryz.ntmps171] at hN
  refine awp_of_wpC _ _ _ ?_
  simp -dsimp [go_sem, hN]
  refine cnd (fun h0 => ?_) (fun h0 => ?_) <;> simp at h0 <;> simp -dsimp [go_sem, hN, arity, h0]
  refine cnd (fun h1 => ?_) (fun h1 => ?_) <;> simp at h1 <;> simp -dsimp [go_sem, hN, arity, h0, h1]
  refine cnd (fun h2 => ?_) (fun h2 => ?_) <;> simp at h2 <;> simp -dsimp [go_sem, hN, arity]
  · rw [if_neg (by omega), if_neg (by omega), if_pos (by omega)]
  · rw [if_neg (by omega), if_neg (by omega), if_neg (by omega)]

theorem c_lexer_IsName (s : Bytes) : APure Tryz.prog 160 [S s] (Bo (nameOk s)) := by
  refine apure_introB Tryz.func160 rfl (by kernel_rfl) (by simp [Tryz.ntmps160]) rfl ?_
  intro E h hN hh hu hb
  rw [Tryz.ntmps160] at hN
  refine awp_of_wpC _ _ _ ?_
  rcases sz_em s with rfl | h1
  · simp -dsimp [go_sem, hN, nameOk]
    refine tgcall_if .top (by simp) (by simp) ?_
    simp -dsimp [go_sem, hN]
    refine tgcall_if .top (by simp) (by simp) ?_
    simp -dsimp [go_sem, hN]
    refine tgcall_if .top (by simp) (by simp) ?_
    simp -dsimp [go_sem, hN, nameOk]
  · have h1' : 0 < s.size := by omega
    have he : ¬ s = em := by rintro rfl; simp at h1
    simp -dsimp [go_sem, hN, h1', he]
    refine tgcall_pure (c_lexer_letter _) (by simp) ?_
    simp -dsimp [go_sem, hN]
    refine tgcall_pure (c_lexer_word s) (by simp) ?_
    simp -dsimp [go_sem, hN]
    refine tgcall_pure (c_lexer_IsKeyword s) (by simp) ?_
    simp -dsimp [go_sem, hN, nameOk, he]

theorem c_ast_node (op n : Int) (s : Bytes) (args : List Ex) (d : Nat) : APure Tryz.prog 122 [.agg [I op, I n, S s, .slice (args.map Ex.c)], I d] (I (nodeErr op n s args.length d)) := by
  refine apure_introB Tryz.func122 rfl (by kernel_rfl) (by simp [Tryz.ntmps122]) rfl ?_
  intro E h hN hh hu hb
  rw [Tryz.ntmps122] at hN
  refine awp_of_wpC _ _ _ ?_
  simp -dsimp [go_sem, hN]
  refine tcall_pure (c_ast_Arity _) ?_
  simp -dsimp [go_sem, hN]
  repeat refine ⟨by grind, ?_⟩
  refine cnd (fun h0 => ?_) (fun h0 => ?_)
  · simp -dsimp [go_sem, hN]
    simp at h0
    rw [nodeErr, if_pos (by grind)]
  have h0' : ¬ (arity op < 0 ∨ (op ≠ 1 ∧ n ≠ 0) ∨ (op ≠ 2 ∧ op ≠ 3 ∧ s ≠ em)) := by simp at h0; grind
  simp -dsimp [go_sem, hN]
  refine tgcall_pure (c_lexer_IsName s) (by simp) ?_
  simp -dsimp [go_sem, hN]
  refine cnd (fun h1 => ?_) (fun h1 => ?_)
  · simp -dsimp [go_sem, hN]
    simp at h1
    rw [nodeErr, if_neg h0', if_pos (by grind)]
  have h1' : ¬ (op = 3 ∧ nameOk s = false) := by simp at h1; grind
  simp -dsimp [go_sem, hN]
  repeat refine ⟨by grind, ?_⟩
  refine tgcall_pure (c_ast_plain s) (by simp) ?_
  simp -dsimp [go_sem, hN]
  repeat refine ⟨by grind, ?_⟩
  refine cnd (fun h2 => ?_) (fun h2 => ?_)
  · simp -dsimp [go_sem, hN]
    simp at h2
    rw [nodeErr, if_neg h0', if_neg h1', if_pos (by grind)]
  have h2' : ¬ ((op = 1 ∧ n < 0) ∨ (op = 2 ∧ plainS s = false) ∨ (args.length : Int) ≠ arity op) := by simp at h2; grind
  simp -dsimp [go_sem, hN]
  refine cnd (fun h3 => ?_) (fun h3 => ?_) <;> simp at h3
  · simp -dsimp [go_sem, hN]
    rw [nodeErr, if_neg h0', if_neg h1', if_neg h2', if_pos (by omega)]
  · simp -dsimp [go_sem, hN]
    rw [nodeErr, if_neg h0', if_neg h1', if_neg h2', if_neg (by omega)]

theorem c_ast_check (e : Ex) (d : Nat) : APure Tryz.prog 87 [.agg [I e.op, I e.n, S e.s, .slice (e.args.map Ex.c)], I d] (I (chkE e d)) := by
  refine apure_introB Tryz.func87 rfl (by kernel_rfl) (by simp [Tryz.ntmps87]) rfl ?_
  intro E h hN hh hu hb
  rw [Tryz.ntmps87] at hN
  refine awp_of_wpC _ _ _ ?_
  simp [go_sem] at hb
  simp -dsimp [go_sem, hN]
  refine tcall_pure (c_ast_node _ _ _ _ _) ?_
  simp -dsimp [go_sem, hN]
  refine cnd (fun h0 => ?_) (fun h0 => ?_) <;> simp at h0
  · simp -dsimp [go_sem, hN]
    rw [chkE_eq, if_neg h0]
  have hd : d ≤ 12 := by
    unfold nodeErr at h0
    grind
  simp -dsimp [go_sem, hN]
  refine awp_loopN e.args.length (fun n => chkL (e.args.drop n) (d + 1) = chkL e.args (d + 1)) (fun n => ⟨[(1, I d), (16, .slice (e.args.map Ex.c)), (17, I e.args.length), (18, I n)], h⟩) (by simp) (Wk.mk (by simp [hh]) (by simp [go_sem]) (by simp [hu, hUnder_ext hu, go_sem]) (by simp [go_sem])) ?_
  intro n hn hI
  have hw := wrapS hn hb.2.1
  have hw2 : IntKind.i64.wrap ((d : Int) + 1) = ((d + 1 : Nat) : Int) := by rw [wrapI (by omega) (by omega)]; rfl
  simp -dsimp [go_sem, hN]
  refine cnd (fun hc => ?_) (fun hc => ?_) <;> simp at hc
  · rw [drop_next hc, chkL] at hI
    simp -dsimp [go_sem, hN, hc, hw2]
    have hlt : SizeOf.sizeOf e.args[n] < SizeOf.sizeOf e := Ex.arg_lt (List.getElem_mem hc)
    refine tcall_pure (c_ast_check e.args[n] (d + 1)) ?_
    simp -dsimp [go_sem, hN]
    refine cnd (fun hg => ?_) (fun hg => ?_) <;> simp at hg
    · simp -dsimp [go_sem, hN]
      rw [chkE_eq e, if_pos h0, ← hI, if_neg hg]
    · simp -dsimp [go_sem, hN, hw]
      exact ⟨hc, by simpa [hg] using hI, (Wk.mk (by simp [hh]) (by simp [go_sem]) (by simp [hu, hUnder_ext hu, go_sem]) (by simp [go_sem]))⟩
  · rw [List.drop_eq_nil_of_le (by omega), chkL] at hI
    simp -dsimp [go_sem, hN]
    rw [chkE_eq e, if_pos h0, ← hI]
termination_by SizeOf.sizeOf e

theorem c_ast_ValidExpr (e : Ex) : APure Tryz.prog 60 [.agg [I e.op, I e.n, S e.s, .slice (e.args.map Ex.c)]] (I (chkE e 1)) := by
  refine apure_introB Tryz.func60 rfl (by kernel_rfl) (by simp [Tryz.ntmps60]) rfl ?_
  intro E h hN hh hu hb
  rw [Tryz.ntmps60] at hN
  refine awp_of_wpC _ _ _ ?_
  simp -dsimp [go_sem, hN]
  refine tcall_pure (c_ast_check e 1) ?_
  simp -dsimp [go_sem, hN]
end Go.Proofs.YtgcdpfpffalalaaGreatDoor

set_option linter.unusedSimpArgs false
set_option linter.unusedVariables false
set_option maxRecDepth 4000
namespace Go.Proofs.YtgcdpfpffalalaaGreatDoor
open Go Go.Abs Go.Cw

theorem c_ast_usesOf (op : Int) : APure Tryz.prog 210 [I op] (.tuple [.agg (usesOf op).1.c, Bo (usesOf op).2]) := by
  refine apure_introB Tryz.func210 rfl (by kernel_rfl) (by simp [Tryz.ntmps210]) rfl ?_
  intro E h hN hh hu hb
  rw [Tryz.ntmps210] at hN
  refine awp_of_wpC _ _ _ ?_
  by_cases h1 : op = 1
  · subst h1; simp -dsimp [go_sem, hN, usesOf]
  by_cases h2 : op = 2
  · subst h2; simp -dsimp [go_sem, hN, usesOf]
  by_cases h3 : op = 3
  · subst h3; simp -dsimp [go_sem, hN, usesOf]
  by_cases h4 : op = 4
  · subst h4; simp -dsimp [go_sem, hN, usesOf]
  by_cases h7 : op = 7
  · subst h7; simp -dsimp [go_sem, hN, usesOf]
  by_cases h5 : op = 5
  · subst h5; simp -dsimp [go_sem, hN, usesOf]
  by_cases h6 : op = 6
  · subst h6; simp -dsimp [go_sem, hN, usesOf]
  by_cases h8 : op = 8
  · subst h8; simp -dsimp [go_sem, hN, usesOf]
  simp -dsimp [go_sem, hN, usesOf, h1, h2, h3, h4, h5, h6, h7, h8]

theorem c_ast_absent (e : Ex) : APure Tryz.prog 233 [.agg e.x] (Bo (absE e)) := by
  refine apure_introB Tryz.func233 rfl (by kernel_rfl) (by simp [Tryz.ntmps233]) rfl ?_
  intro E h hN hh hu hb
  rw [Tryz.ntmps233] at hN
  refine awp_of_wpC _ _ _ ?_
  simp -dsimp [go_sem, hN, absE]
  try grind

theorem c_ast_shape (s : St) (u : Uses) : APure Tryz.prog 211 [.agg s.x, .agg u.c] (Bo (shapeOk s u)) := by
  refine apure_introB Tryz.func211 rfl (by kernel_rfl) (by simp [Tryz.ntmps211]) rfl ?_
  intro E h hN hh hu hb
  rw [Tryz.ntmps211] at hN
  refine awp_of_wpC _ _ _ ?_
  simp -dsimp [go_sem, hN]
  repeat refine ⟨by grind, ?_⟩
  refine tgcall_pure (c_ast_absent s.a) (by simp) ?_
  simp -dsimp [go_sem, hN]
  repeat refine ⟨by grind, ?_⟩
  refine tgcall_pure (c_ast_absent s.b) (by simp) ?_
  simp -dsimp [go_sem, hN]
  repeat refine ⟨by grind, ?_⟩
  refine cnd (fun h0 => ?_) (fun h0 => ?_)
  · simp -dsimp [go_sem, hN]
    simp [shapeOk] at h0 ⊢
    grind
  · simp -dsimp [go_sem, hN]
    refine cnd (fun h1 => ?_) (fun h1 => ?_) <;> simp at h1 <;> simp -dsimp [go_sem, hN, h1]
    · simp [shapeOk, h1] at h0 ⊢
      grind
    · refine cnd (fun h2 => ?_) (fun h2 => ?_) <;> simp at h2 <;> simp -dsimp [go_sem, hN, h2]
      · simp [shapeOk, h1, h2] at h0 ⊢
        grind
      · simp [shapeOk, h1, h2] at h0 ⊢
        grind
end Go.Proofs.YtgcdpfpffalalaaGreatDoor

set_option linter.unusedSimpArgs false
set_option linter.unusedVariables false
set_option maxRecDepth 4000
namespace Go.Proofs.YtgcdpfpffalalaaGreatDoor
open Go Go.Abs Go.Cw

theorem c_ast_statement (s : St) (d : Int) : APure Tryz.prog 164 [.agg s.x, I d] (I (stmtErr s d)) := by
  refine apure_introB Tryz.func164 rfl (by kernel_rfl) (by simp [Tryz.ntmps164]) rfl ?_
  intro E h hN hh hu hb
  rw [Tryz.ntmps164] at hN
  refine awp_of_wpC _ _ _ ?_
  simp -dsimp [go_sem, hN]
  refine tcall_pure (c_ast_usesOf _) ?_
  simp -dsimp [go_sem, hN]
  refine tgcall_pure (c_ast_shape s (usesOf s.op).1) (by simp) ?_
  simp -dsimp [go_sem, hN]
  refine cnd (fun h0 => ?_) (fun h0 => ?_)
  · simp -dsimp [go_sem, hN]
    simp at h0
    rw [stmtErr, if_pos (by grind)]
  have h0' : ¬ ((usesOf s.op).2 = false ∨ shapeOk s (usesOf s.op).1 = false) := by simp at h0; grind
  simp -dsimp [go_sem, hN]
  refine tgcall_pure (c_lexer_IsName _) (by simp) ?_
  simp -dsimp [go_sem, hN]
  refine cnd (fun h1 => ?_) (fun h1 => ?_)
  · simp -dsimp [go_sem, hN]
    simp at h1
    rw [stmtErr, if_neg h0', if_pos (by grind)]
  have h1' : ¬ ((usesOf s.op).1.name = true ∧ nameOk s.name = false) := by simp at h1; grind
  simp -dsimp [go_sem, hN]
  have tail : ¬ ((usesOf s.op).1.a = true ∧ chkE s.a 1 ≠ 0) → ¬ ((usesOf s.op).1.b = true ∧ chkE s.b 1 ≠ 0) → ∀ x : Int, x = (if 12 < d then 2 else 0) → x = stmtErr s d := by
    intro g1 g2 x hx
    rw [stmtErr, if_neg h0', if_neg h1', if_neg g1, if_neg g2, hx]
  have tailb : ¬ ((usesOf s.op).1.a = true ∧ chkE s.a 1 ≠ 0) → ((usesOf s.op).1.b = true ∧ chkE s.b 1 ≠ 0) → chkE s.b 1 = stmtErr s d := by
    intro g1 g2
    rw [stmtErr, if_neg h0', if_neg h1', if_neg g1, if_pos g2]
  refine cnd (fun h2 => ?_) (fun h2 => ?_)
  · simp -dsimp [go_sem, hN]
    refine tcall_pure (c_ast_ValidExpr s.a) ?_
    simp -dsimp [go_sem, hN]
    refine cnd (fun h3 => ?_) (fun h3 => ?_) <;> simp at h3
    · simp -dsimp [go_sem, hN]
      rw [stmtErr, if_neg h0', if_neg h1', if_pos ⟨h2, h3⟩]
    simp -dsimp [go_sem, hN]
    refine cnd (fun h4 => ?_) (fun h4 => ?_)
    · simp -dsimp [go_sem, hN]
      refine tcall_pure (c_ast_ValidExpr s.b) ?_
      simp -dsimp [go_sem, hN]
      refine cnd (fun h5 => ?_) (fun h5 => ?_) <;> simp at h5
      · simp -dsimp [go_sem, hN]
        exact tailb (by grind) ⟨h4, h5⟩
      simp -dsimp [go_sem, hN]
      refine cnd (fun h6 => ?_) (fun h6 => ?_) <;> simp at h6 <;> simp -dsimp [go_sem, hN] <;> refine tail (by grind) (by grind) _ (by rw [eq_comm]; first | exact if_pos h6 | exact if_neg (by omega))
    · simp -dsimp [go_sem, hN]
      refine cnd (fun h6 => ?_) (fun h6 => ?_) <;> simp at h6 <;> simp -dsimp [go_sem, hN] <;> refine tail (by grind) (by grind) _ (by rw [eq_comm]; first | exact if_pos h6 | exact if_neg (by omega))
  · simp -dsimp [go_sem, hN]
    refine cnd (fun h4 => ?_) (fun h4 => ?_)
    · simp -dsimp [go_sem, hN]
      refine tcall_pure (c_ast_ValidExpr s.b) ?_
      simp -dsimp [go_sem, hN]
      refine cnd (fun h5 => ?_) (fun h5 => ?_) <;> simp at h5
      · simp -dsimp [go_sem, hN]
        exact tailb (by grind) ⟨h4, h5⟩
      simp -dsimp [go_sem, hN]
      refine cnd (fun h6 => ?_) (fun h6 => ?_) <;> simp at h6 <;> simp -dsimp [go_sem, hN] <;> refine tail (by grind) (by grind) _ (by rw [eq_comm]; first | exact if_pos h6 | exact if_neg (by omega))
    · simp -dsimp [go_sem, hN]
      refine cnd (fun h6 => ?_) (fun h6 => ?_) <;> simp at h6 <;> simp -dsimp [go_sem, hN] <;> refine tail (by grind) (by grind) _ (by rw [eq_comm]; first | exact if_pos h6 | exact if_neg (by omega))

/-- The test that asks for a name, whose closure holds a parameter's cell. -/
theorem c_ast_params1 (x : Param) (h : AHeap) (i : Nat) (p : Param) (hi : h[i]? = some (.cells p.c)) : ACalls Tryz.prog 208 [.agg x.c, .ptr i 0] h fun r h' => r = .ret (Bo (decide (x.name = p.name))) ∧ h' = h := by
  refine acalls_introB Tryz.func208 rfl (by kernel_rfl) (by simp [Tryz.ntmps208]) ?_
  intro E hN hh hu hb hb' hua
  rw [Tryz.ntmps208] at hN
  refine awp_of_wpC _ _ _ ?_
  have hi' : i < h.length := (List.getElem?_eq_some_iff.1 hi).1
  have a1 : ∀ l, (h ++ l)[i]? = some (.cells p.c) := fun l => by rw [List.getElem?_append_left hi']; exact hi
  simp -dsimp [go_sem, hN, a1, hu]
  exact ⟨_, .refl _, h, by simp [go_sem], by simp [go_sem], by simp, by simp [hu, go_sem], rfl, rfl⟩

theorem c_IndexFunc_Param (l : List Param) (f : FuncId) (caps : List AV) (q : Param → Bool) (h : AHeap) (hcn : normL h caps = caps) (hp : ∀ x : Param, ACalls Tryz.prog f ([.agg x.c] ++ caps) h fun r h' => r = .ret (Bo (q x)) ∧ h' = h) :
    ACalls Tryz.prog 231 [.slice (l.map Param.c), .fn (.func f) [] caps] h fun r h' => r = .ret (I (idxOf q l)) ∧ h' = h := by
  refine acalls_introB Tryz.func231 rfl (by kernel_rfl) (by simp [Tryz.ntmps231]) ?_
  intro E hN hh hu hb hb' hua
  rw [Tryz.ntmps231] at hN
  refine awp_of_wpC _ _ _ ?_
  simp [go_sem] at hb
  simp -dsimp [go_sem, hN]
  refine awp_loopN l.length (fun n => idxFrom q n (l.drop n) = idxOf q l) (fun n => ⟨[(0, .slice (l.map Param.c)), (1, .fn (.func f) [] caps), (7, I l.length), (8, I n)], h⟩) (by simp [idxOf]) (Wk.mk (by simp [hh]) (by simp) (by simp [hu]) (by simp [go_sem]; simpa [go_sem] using hua)) ?_
  intro n hn hI
  have hw := wrapS hn hb.1
  simp -dsimp [go_sem, hN]
  refine cnd (fun hc => ?_) (fun hc => ?_) <;> simp at hc
  · rw [drop_next hc, idxFrom] at hI
    simp -dsimp [go_sem, hN, hc, hcn]
    refine tcall (hp l[n]) ?_
    rintro r h' ⟨rfl, rfl⟩
    simp -dsimp [go_sem, hN]
    refine cnd (fun hg => ?_) (fun hg => ?_) <;> try simp at hg
    · simp -dsimp [go_sem, hN]
      rw [if_pos hg] at hI
      rw [hI]
      exact ⟨_, .refl _, h', by simp [go_sem], by simp [go_sem], by simp, by simp [hu, go_sem], rfl, rfl⟩
    · simp -dsimp [go_sem, hN, hw]
      exact ⟨hc, by simpa [hg] using hI, Wk.mk (by simp [hh]) (by simp) (by simp [hu]) (by simp [go_sem]; simpa [go_sem] using hua)⟩
  · rw [List.drop_eq_nil_of_le (by omega), idxFrom] at hI
    simp -dsimp [go_sem, hN, ← hI]
    exact ⟨_, .refl _, h, by simp [go_sem], by simp [go_sem], by simp, by simp [hu, go_sem], rfl, rfl⟩

theorem c_ContainsFunc_Param (l : List Param) (f : FuncId) (caps : List AV) (q : Param → Bool) (h : AHeap) (hcn : normL h caps = caps) (hp : ∀ x : Param, ACalls Tryz.prog f ([.agg x.c] ++ caps) h fun r h' => r = .ret (Bo (q x)) ∧ h' = h) :
    ACalls Tryz.prog 207 [.slice (l.map Param.c), .fn (.func f) [] caps] h fun r h' => r = .ret (Bo (anyL q l)) ∧ h' = h := by
  refine acalls_introB Tryz.func207 rfl (by kernel_rfl) (by simp [Tryz.ntmps207]) ?_
  intro E hN hh hu hb hb' hua
  rw [Tryz.ntmps207] at hN
  refine awp_of_wpC _ _ _ ?_
  simp -dsimp [go_sem, hN]
  refine tcall (c_IndexFunc_Param l f caps q h hcn hp) ?_
  rintro r h' ⟨rfl, rfl⟩
  simp -dsimp [go_sem, hN, idxOf_nonneg]
  exact ⟨_, .refl _, h', by simp [go_sem], by simp [go_sem], by simp, by simp [hu, go_sem], rfl, rfl⟩

theorem c_ast_params (l : List Param) : APure Tryz.prog 161 [.slice (l.map Param.c)] (I (paramsE l)) := by
  refine apure_introB Tryz.func161 rfl (by kernel_rfl) (by simp [Tryz.ntmps161]) rfl ?_
  intro E h hN hh hu hb
  rw [Tryz.ntmps161] at hN
  refine awp_of_wpC _ _ _ ?_
  unfold paramsE
  simp [go_sem] at hb
  simp -dsimp [go_sem, hN]
  refine cnd (fun h0 => ?_) (fun h0 => ?_) <;> simp at h0
  · simp -dsimp [go_sem, hN]
    omega
  simp -dsimp [go_sem, hN]
  rw [if_neg (by omega)]
  refine awp_loopN l.length (fun n => paramsErr (l.take n) (l.drop n) = paramsErr [] l) (fun n => ⟨[(0, .slice (l.map Param.c)), (8, .slice (l.map Param.c)), (9, I l.length), (10, I n)], h⟩) (by simp) (Wk.mk (by simp [hh]) (by simp [go_sem]) (by simp [hu, hUnder_ext hu, go_sem]) (by simp [go_sem])) ?_
  intro n hn hI
  have hw := wrapS hn hb.1
  simp -dsimp [go_sem, hN]
  refine cnd (fun hc => ?_) (fun hc => ?_) <;> simp at hc
  · rw [drop_next hc, paramsErr] at hI
    simp -dsimp [go_sem, hN, hc]
    refine tcall_pure (c_lexer_IsName _) ?_
    simp -dsimp [go_sem, hN]
    refine cnd (fun h1 => ?_) (fun h1 => ?_) <;> simp at h1
    · simp -dsimp [go_sem, hN]
      simpa [h1] using hI
    simp -dsimp [go_sem, hN]
    refine cnd (fun h2 => ?_) (fun h2 => ?_) <;> simp at h2
    · simp -dsimp [go_sem, hN]
      simpa [h1, h2] using hI
    have h2' : ¬ (l[n].ty < 1 ∨ 3 < l[n].ty) := by omega
    simp -dsimp [go_sem, hN, hn]
    have ecl : (List.map Param.c l).take n = (l.take n).map Param.c := by simp
    rw [ecl]
    refine tcall (c_ContainsFunc_Param (l.take n) _ _ (fun x => decide (x.name = l[n].name)) _ (by simp [normL, AV.norm]) (fun x => c_ast_params1 x _ _ l[n] (by simp [Param.c]))) ?_
    rintro r h' ⟨rfl, rfl⟩
    simp -dsimp [go_sem, hN]
    refine cnd (fun h3 => ?_) (fun h3 => ?_) <;> try simp at h3
    · simp -dsimp [go_sem, hN]
      simpa [h1, h2', h3] using hI
    · simp -dsimp [go_sem, hN, hw]
      refine ⟨hc, ?_, (Wk.mk (by simp [hh]) (by simp [go_sem]) (by simp [hu, hUnder_ext hu, go_sem]) (by simp [go_sem]))⟩
      rw [List.take_succ_eq_append_getElem hc]
      simpa [h1, h2', h3] using hI
  · rw [List.drop_eq_nil_of_le (by omega), paramsErr] at hI
    simp -dsimp [go_sem, hN, ← hI]
end Go.Proofs.YtgcdpfpffalalaaGreatDoor

set_option linter.unusedSimpArgs false
set_option linter.unusedVariables false
set_option maxRecDepth 4000
namespace Go.Proofs.YtgcdpfpffalalaaGreatDoor
open Go Go.Abs Go.Cw

variable {σ : Type} {K : σ → Nat} {M : Nat} {w : Nat} {fs fr : FuncId} {cs cr : List AV} {H : Nat → σ → AHeap} {fS : σ → St → Nat → σ} {fR : σ → Ex → σ} {n0 : Nat}

theorem c_walker_expr {H : Nat → σ → AHeap} {n0 : Nat} (W : WH Tryz.prog w fs fr cs cr H fS fR n0 K M) (e : Ex) (left : Nat) (s : σ) (hl : left ≤ 1000) :
    ACalls Tryz.prog 248 [.ptr w 0, .agg e.x] (H left s) fun r h' => r = .ret (.tuple []) ∧ h' = H (exW e left) s := by
  refine acalls_introB Tryz.func248 rfl (by kernel_rfl) (by simp [Tryz.ntmps248]) ?_
  intro E hN hh hu hb hb' hua
  rw [Tryz.ntmps248] at hN
  refine awp_of_wpC _ _ _ ?_
  simp [go_sem] at hb
  simp -dsimp [go_sem, hN, W.w', W.look, W.len]
  refine cnd (fun h0 => ?_) (fun h0 => ?_) <;> simp at h0
  · subst h0
    simp -dsimp [go_sem, hN]
    rw [exW_eq, if_pos rfl]
    exact ⟨_, .refl _, H 0 s, rfl, by simp, by simp, hu, rfl, rfl⟩
  have hw1 : IntKind.i64.wrap ((left : Int) - 1) = ((left - 1 : Nat) : Int) := by rw [wrapI (by omega) (by omega)]; omega
  simp -dsimp [go_sem, hN, W.w', hw1, W.set', W.loc0]
  refine awp_loopA (α := Nat) e.args.length (fun n m => exWL (e.args.drop n) m = exW e left ∧ m ≤ left) (fun n m => ⟨[(0, .ptr w 0), (19, .slice (e.args.map Ex.c)), (20, I e.args.length), (21, I n)], H m s ++ [.cells e.x]⟩) (left - 1) ⟨by rw [exW_eq, if_neg h0]; rfl, by omega⟩ (Wk.mk (by simp [hh, W.len]) (by simp [go_sem]) ((W.ext [.cells e.x] (by simp [go_sem])).und' _ _) (by have := W.lt; simp [go_sem, W.len]; omega)) ?_
  intro n m hn ⟨hI, hm⟩
  have hw := wrapS hn hb.2.1
  simp -dsimp [go_sem, hN]
  refine cnd (fun hc => ?_) (fun hc => ?_) <;> simp at hc
  · rw [drop_next hc, exWL] at hI
    have hlt : SizeOf.sizeOf e.args[n] < SizeOf.sizeOf e := Ex.arg_lt (List.getElem_mem hc)
    simp -dsimp [go_sem, hN, hc, W.loc0, W.loc1, W.set0, W.set1, W.len]
    refine tcall (c_walker_expr (W.ext [.cells e.x, .cells e.args[n].x] (by simp [go_sem])) e.args[n] m s (by omega)) ?_
    rintro r h' ⟨rfl, rfl⟩
    simp -dsimp [go_sem, hN, hw]
    refine ⟨hc, _, ⟨hI, ?_⟩, ?_⟩
    · have := exW_le e.args[n] m
      omega
    · exact (Wk.mk (by simp [hh, W.len]) (by simp [go_sem]) ((W.ext [.cells e.x] (by simp [go_sem])).und' _ _) (by have := W.lt; simp [go_sem, W.len]; omega))
  · rw [List.drop_eq_nil_of_le (by omega), exWL] at hI
    simp -dsimp [go_sem, hN]
    subst hI
    exact ⟨_, .refl _, H (exW e left) s, rfl, by simp, by simp [W.len], W.und' _ _, rfl, rfl⟩
termination_by SizeOf.sizeOf e

theorem c_walker_first {H : Nat → σ → AHeap} {n0 : Nat} (W : WH Tryz.prog w fs fr cs cr H fS fR n0 K M) (e : Ex) (left : Nat) (s : σ) (hl : left ≤ 1000) (hK : K s + left ≤ M) :
    ACalls Tryz.prog 232 [.ptr w 0, .agg e.x] (H left s) fun r h' => r = .ret (.tuple []) ∧ h' = H (firstW fR e (left, s)).1 (firstW fR e (left, s)).2 := by
  refine acalls_introB Tryz.func232 rfl (by kernel_rfl) (by simp [Tryz.ntmps232]) ?_
  intro E hN hh hu hb hb' hua
  rw [Tryz.ntmps232] at hN
  refine awp_of_wpC _ _ _ ?_
  simp [go_sem] at hb
  simp -dsimp [go_sem, hN, W.w', W.look, W.len, W.loc0]
  refine tgcall_pure (c_ast_absent e) (by simp) ?_
  simp -dsimp [go_sem, hN]
  refine cnd (fun h0 => ?_) (fun h0 => ?_) <;> simp at h0
  · simp -dsimp [go_sem, hN]
    rw [firstW, if_pos (by simpa using h0)]
    exact ⟨_, .refl _, H left s, rfl, by simp, by simp, hu, rfl, rfl⟩
  simp -dsimp [go_sem, hN]
  refine awp_drawQ 5 mixed (by kernel_rfl) (by kernel_rfl) ?_
  simp -dsimp [go_sem, hN, W.w', W.loc0, W.ncr]
  refine tcall (W.root left s [.cells e.x] e hK h0.1) ?_
  rintro r h' ⟨rfl, rfl⟩
  simp -dsimp [go_sem, hN, W.loc0]
  refine tcall (c_walker_expr (W.ext [.cells e.x] (by simp [go_sem])) e left (fR s e) hl) ?_
  rintro r h' ⟨rfl, rfl⟩
  simp -dsimp [go_sem, hN]
  rw [firstW, if_neg (by simp only [not_or]; exact ⟨h0.1, by simp [h0.2]⟩)]
  exact ⟨_, .refl _, H (exW e left) (fR s e), rfl, by simp, by simp [W.len], W.und' _ _, rfl, rfl⟩

theorem c_walker_block {H : Nat → σ → AHeap} {n0 : Nat} (W : WH Tryz.prog w fs fr cs cr H fS fR n0 K M) (l : List St) (d left : Nat) (s : σ) (hl : d + left ≤ 1000) (hK : K s + left ≤ M) :
    ACalls Tryz.prog 209 [.ptr w 0, .slice (l.map St.c), I d] (H left s) fun r h' => r = .ret (.tuple []) ∧ h' = H (blkW fS fR l d (left, s)).1 (blkW fS fR l d (left, s)).2 := by
  refine acalls_introB Tryz.func209 rfl (by kernel_rfl) (by simp [Tryz.ntmps209]) ?_
  intro E hN hh hu hb hb' hua
  rw [Tryz.ntmps209] at hN
  refine awp_of_wpC _ _ _ ?_
  simp [go_sem] at hb
  simp -dsimp [go_sem, hN, W.w', W.look, W.len, W.loc0]
  refine awp_loopA (α := Nat × σ) l.length (fun n x => blkW fS fR (l.drop n) d x = blkW fS fR l d (left, s) ∧ x.1 ≤ left ∧ K x.2 + x.1 ≤ M) (fun n x => ⟨[(0, .ptr w 0), (2, I d), (8, .slice (l.map St.c)), (9, I l.length), (10, I n)], H x.1 x.2⟩) (left, s) ⟨by simp, by simp, hK⟩ (Wk.mk (by simp [hh, W.len]) (by simp [go_sem]) (W.und' _ _) (by have := W.lt; simp [go_sem, W.len]; omega)) ?_
  rintro n ⟨m, s⟩ hn ⟨hI, hm, hk⟩
  simp only at hm hk
  have hw := wrapS hn hb.1
  simp -dsimp [go_sem, hN]
  refine cnd (fun hc => ?_) (fun hc => ?_) <;> simp at hc
  · rw [drop_next hc, blkW] at hI
    have hlt : SizeOf.sizeOf l[n] < SizeOf.sizeOf l := List.sizeOf_lt_of_mem (List.getElem_mem hc)
    simp -dsimp [go_sem, hN, hc, W.loc0, W.set0, W.len, W.w']
    refine cnd (fun h0 => ?_) (fun h0 => ?_) <;> simp at h0
    · subst h0
      simp -dsimp [go_sem, hN]
      rw [if_pos rfl] at hI
      rw [← hI]
      exact ⟨_, .refl _, H 0 s, rfl, by simp, by simp [W.len], W.und' _ _, rfl, rfl⟩
    have hw1 : IntKind.i64.wrap ((m : Int) - 1) = ((m - 1 : Nat) : Int) := by rw [wrapI (by omega) (by omega)]; omega
    rw [if_neg h0] at hI
    simp -dsimp [go_sem, hN, hw1, W.loc0, W.w', W.set']
    refine awp_drawQ 6 mixed (by kernel_rfl) (by kernel_rfl) ?_
    have X := W.ext [.cells l[n].x] (by simp [go_sem])
    simp -dsimp [go_sem, hN, W.w', W.loc0, W.ncs]
    refine tcall (W.stmt (m - 1) s [.cells l[n].x] l[n] d (by omega)) ?_
    rintro r h' ⟨rfl, rfl⟩
    have k0 := W.hS s l[n] d
    simp -dsimp [go_sem, hN, W.w', W.loc0]
    refine tcall (c_walker_first X l[n].a (m - 1) (fS s l[n] d) (by omega) (by omega)) ?_
    rintro r h' ⟨rfl, rfl⟩
    have g1 := firstW_le fR l[n].a (m - 1, fS s l[n] d)
    have k1 := firstW_K fR K W.hR l[n].a (m - 1, fS s l[n] d)
    simp only at g1 k1
    generalize hx1 : firstW fR l[n].a (m - 1, fS s l[n] d) = x1 at g1 k1 ⊢
    simp -dsimp [go_sem, hN, W.w', W.loc0]
    refine tcall (c_walker_first X l[n].b x1.1 x1.2 (by omega) (by omega)) ?_
    rintro r h' ⟨rfl, rfl⟩
    have g2 := firstW_le fR l[n].b x1
    have k2 := firstW_K fR K W.hR l[n].b x1
    generalize hx2 : firstW fR l[n].b x1 = x2 at g2 k2 ⊢
    have hw2 : IntKind.i64.wrap ((d : Int) + 1) = ((d + 1 : Nat) : Int) := by rw [wrapI (by omega) (by omega)]; omega
    have hb1 := St.body_le l[n]
    have hb2 := St.els_le l[n]
    simp -dsimp [go_sem, hN, W.w', W.loc0, hw2]
    refine tcall (c_walker_block X l[n].body (d + 1) x2.1 x2.2 (by omega) (by omega)) ?_
    rintro r h' ⟨rfl, rfl⟩
    have g3 := blkW_le fS fR l[n].body (d + 1) x2
    have k3 := blkW_K fS fR K W.hS W.hR l[n].body (d + 1) x2
    generalize hx3 : blkW fS fR l[n].body (d + 1) x2 = x3 at g3 k3 ⊢
    simp -dsimp [go_sem, hN, W.w', W.loc0, hw2]
    refine tcall (c_walker_block X l[n].els (d + 1) x3.1 x3.2 (by omega) (by omega)) ?_
    rintro r h' ⟨rfl, rfl⟩
    have g4 := blkW_le fS fR l[n].els (d + 1) x3
    have k4 := blkW_K fS fR K W.hS W.hR l[n].els (d + 1) x3
    simp -dsimp [go_sem, hN, hw]
    refine ⟨hc, (blkW fS fR l[n].els (d + 1) x3).1, (blkW fS fR l[n].els (d + 1) x3).2, ⟨?_, ?_⟩, (Wk.mk (by simp [hh, W.len]) (by simp [go_sem]) (W.und' _ _) (by have := W.lt; simp [go_sem, W.len]; omega))⟩
    · rw [← hI, stW_eq, hx1, hx2, hx3]
    · exact ⟨by omega, by omega⟩
  · rw [List.drop_eq_nil_of_le (by omega), blkW] at hI
    simp -dsimp [go_sem, hN]
    rw [← hI]
    exact ⟨_, .refl _, H m s, rfl, by simp, by simp [W.len], W.und' _ _, rfl, rfl⟩
termination_by SizeOf.sizeOf l
end Go.Proofs.YtgcdpfpffalalaaGreatDoor
