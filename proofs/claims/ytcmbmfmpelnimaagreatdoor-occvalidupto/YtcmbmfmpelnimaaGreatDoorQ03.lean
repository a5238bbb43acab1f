/- Part 3 of a proof: AbsE, AbsF, AbsG, AbsH -/
import Derived.Test.YtcmbmfmpelnimaaGreatDoorQ02
set_option linter.all false

namespace Go.Abs
theorem Rel.val_inv {c : Ctx} {x v : Value} (h : Rel c (.val x) v) : v = x := by
  cases h with
  | data h => cases h; rfl
  | val => rfl
theorem Rel.slice_inv {c : Ctx} {rows : List (List AV)} {v : Value} : Rel c (.slice rows) v → DRel c.D (.slice rows) v
  | .data h => h
theorem tk_spec {P : Program} {t : TypeId} {k : TK} (h : tkind P t = k) (hk : k ≠ .other) :
    ∃ i d z, P.info? t = some i ∧ P.underlying t = some d ∧ i.zero = some z ∧ kindOf P d = k ∧ tsize P t = i.size ∧ tzero P t = z.cells.toList.map liftC ∧ z.cells.size = i.size ∧ ∀ v, v ∈ z.cells.toList → v.oneCell' = true := by
  unfold tkind at h
  unfold tsize tzero
  split at h
  · rename_i x hx
    obtain ⟨i, d, z, h1, h2, h3, rfl, h4, h5⟩ := ti_spec hx
    exact ⟨i, d, z, h1, h2, h3, h, by simp, by simp, h4, h5⟩
  · exact (hk h.symm).elim
theorem kind_slice {P : Program} {d : TypeDesc} {e sz : Nat} (h : kindOf P d = .slice e sz) : d = .slice e ∧ ∃ i, P.info? e = some i ∧ i.size = sz := by
  cases d with
  | slice e' =>
    simp only [kindOf] at h
    split at h
    · rename_i hs
      simp only [TK.slice.injEq] at h
      obtain ⟨rfl, rfl⟩ := h
      obtain ⟨i, hi⟩ := Option.isSome_iff_exists.1 hs
      exact ⟨rfl, i, hi, by simp [Program.cellsOf, hi]⟩
    · cases h
  | struct fs => simp only [kindOf] at h; split at h <;> cases h
  | array n e => simp only [kindOf] at h; split at h <;> cases h
  | _ => simp [kindOf] at h
theorem kind_array {P : Program} {d : TypeDesc} {n e sz : Nat} (h : kindOf P d = .array n e sz) : d = .array n e ∧ ∃ i, P.info? e = some i ∧ i.size = sz := by
  cases d with
  | array n' e' =>
    simp only [kindOf] at h
    split at h
    · rename_i hs
      simp only [TK.array.injEq] at h
      obtain ⟨rfl, rfl, rfl⟩ := h
      obtain ⟨i, hi⟩ := Option.isSome_iff_exists.1 hs
      exact ⟨rfl, i, hi, by simp [Program.cellsOf, hi]⟩
    · cases h
  | struct fs => simp only [kindOf] at h; split at h <;> cases h
  | slice e => simp only [kindOf] at h; split at h <;> cases h
  | _ => simp [kindOf] at h
theorem kind_struct {P : Program} {d : TypeDesc} {fs : List (Nat × Nat)} (h : kindOf P d = .struct fs) :
    ∃ l, d = .struct l ∧ (∀ f, f ∈ l.toList → ∃ i, P.info? f.type = some i) ∧ fs = l.toList.map fun f => (f.offset, P.cellsOf f.type) := by
  cases d with
  | struct l =>
    simp only [kindOf] at h
    split at h
    · rename_i hs
      simp only [TK.struct.injEq] at h
      exact ⟨l, rfl, fun f hf => Option.isSome_iff_exists.1 (List.all_eq_true.1 hs f hf), h.symm⟩
    · cases h
  | array n e => simp only [kindOf] at h; split at h <;> cases h
  | slice e => simp only [kindOf] at h; split at h <;> cases h
  | _ => simp [kindOf] at h
theorem kind_string {P : Program} {d : TypeDesc} (h : kindOf P d = .string) : d = .string := by
  cases d <;> simp only [kindOf] at h <;> first | rfl | (split at h <;> cases h) | cases h
theorem kind_bool {P : Program} {d : TypeDesc} (h : kindOf P d = .bool) : d = .bool := by
  cases d <;> simp only [kindOf] at h <;> first | rfl | (split at h <;> cases h) | cases h
theorem kind_int {P : Program} {d : TypeDesc} {k : IntKind} (h : kindOf P d = .int k) : d = .int k := by
  cases d <;> simp only [kindOf] at h <;> first | (split at h <;> cases h) | (cases h; done) | (simp only [TK.int.injEq] at h; rw [h])
theorem run_und {P : Program} {t : TypeId} {d : TypeDesc} (h : P.underlying t = some d) (w : World) : (underlying t).run P w = .ok d w := run_underlying h w
theorem run_sizeI {P : Program} {t : TypeId} {i : TypeInfo} (h : P.info? t = some i) (w : World) : (sizeOf t).run P w = .ok i.size w := by
  simp [sizeOf, run_typeInfo _ h]
theorem run_isAggD {P : Program} {t : TypeId} {d : TypeDesc} (h : P.underlying t = some d) (hk : kindOf P d ≠ .other) (w : World) : (isAgg t).run P w = .ok (kindOf P d).agg w := by
  simp only [isAgg, Sem.run_bind, run_und h, Result.andThen_ok]
  cases d <;> first | rfl | (simp only [kindOf] at hk ⊢; split <;> first | rfl | (rename_i hs; simp [hs] at hk))
theorem toList_inj {a b : ByteArray} : (a.toList == b.toList) = decide (a = b) := by
  have hl : ∀ x : ByteArray, x.toList = x.data.toList := fun x => ByteArray.toList_eq x
  rw [hl, hl]
  by_cases h : a = b
  · subst h; simp
  · have : a.data.toList ≠ b.data.toList := fun e => h (by
      cases a; cases b; simp at e; simp [e])
    rw [beq_eq_false_iff_ne.2 this, decide_eq_false h]
theorem run_equalIn_bool {P : Program} {t : TypeId} (hu : P.underlying t = some .bool) (a b : Bool) (w : World) (n : Nat) : (Op.equalIn (n + 1) t (.bool a) (.bool b)).run P w = .ok (a == b) w := by
  simp [Op.equalIn, run_und hu]
theorem run_eql_bool {P : Program} {t : TypeId} (hu : P.underlying t = some .bool) (a b : Bool) (w : World) : (binOp .eql t (.bool a) (.bool b)).run P w = .ok (.bool (decide (a = b))) w := by
  show (do pure (.bool (← Op.equalIn (9999 + 1) t (.bool a) (.bool b))) : Sem Value).run P w = _
  simp only [Sem.run_bind, run_equalIn_bool hu, Result.andThen_ok, Sem.run_pure]
  cases a <;> cases b <;> rfl
theorem run_neq_bool {P : Program} {t : TypeId} (hu : P.underlying t = some .bool) (a b : Bool) (w : World) : (binOp .neq t (.bool a) (.bool b)).run P w = .ok (.bool (!decide (a = b))) w := by
  show (do pure (.bool (!(← Op.equalIn (9999 + 1) t (.bool a) (.bool b)))) : Sem Value).run P w = _
  simp only [Sem.run_bind, run_equalIn_bool hu, Result.andThen_ok, Sem.run_pure]
  cases a <;> cases b <;> rfl
section
variable {P : Program} {c : Ctx} {h : AHeap} {w : World}
theorem fit_rel : ∀ {ks : List TK} {xs : List AV} {vs : List Value}, xs.length = vs.length → (∀ (j : Nat) (x : AV) (v : Value), xs[j]? = some x → vs[j]? = some v → Rel c x v) → fitA ks xs → fitV ks vs ∧ xs = vs.map AV.val
  | [], [], [], _, _, _ => ⟨trivial, rfl⟩
  | [], _ :: _, _, _, _, h => by simp [fitA] at h
  | k :: ks, [], _, _, _, h => by cases k <;> simp [fitA] at h
  | _ :: _, _ :: _, [], hl, _, _ => by simp at hl
  | [], [], _ :: _, hl, _, _ => by simp at hl
  | k :: ks, x :: xs, v :: vs, hl, hr, h => by
    have h0 := hr 0 x v rfl rfl
    have ih := fun h' => fit_rel (ks := ks) (xs := xs) (vs := vs) (by simpa using hl) (fun j x v hx hv => hr (j + 1) x v (by simpa using hx) (by simpa using hv)) h'
    cases k <;> cases x <;> first | (simp [fitA] at h; done) | skip
    all_goals rename_i u; cases u <;> first | (simp [fitA] at h; done) | skip
    · obtain rfl := h0.val_inv; simpa [fitV] using ih (by simpa [fitA] using h)
    · obtain rfl := h0.val_inv; simp only [fitA] at h; have := ih h.2; simpa [fitV, h.1] using this
    · obtain rfl := h0.val_inv; simpa [fitV] using ih (by simpa [fitA] using h)
theorem eqA_eqV : ∀ {ks : List TK} {xs ys : List Value}, fitV ks xs → fitV ks ys → eqA (xs.map AV.val) (ys.map AV.val) = eqV xs ys
  | [], [], [], _, _ => rfl
  | [], _ :: _, _, h, _ => by simp [fitV] at h
  | [], [], _ :: _, _, h => by simp [fitV] at h
  | k :: ks, [], _, h, _ => by cases k <;> simp [fitV] at h
  | k :: ks, _ :: _, [], _, h => by cases k <;> simp [fitV] at h
  | k :: ks, x :: xs, y :: ys, hx, hy => by
    cases k <;> cases x <;> simp only [fitV] at hx <;> first | (exact hx.elim) | skip
    all_goals cases y <;> simp only [fitV] at hy <;> first | (exact hy.elim) | skip
    · simp [eqA, eqV, eqA_eqV hx hy]
    · simp [eqA, eqV, eqA_eqV hx.2 hy.2]
    · simp [eqA, eqV, eqA_eqV hx hy]
theorem agg_eq {T : TypeId} {xs ys : List AV} {u v : Value} (hx : Rel c (.agg xs) u) (hy : Rel c (.agg ys) v) (hne : flatOf P T ≠ []) (h1 : fitA (flatOf P T) xs) (h2 : fitA (flatOf P T) ys) (op : BinOp) (hop : (op matches .eql | .neq) = true) (xo yo : Operand) :
    (eqGuard op T xo yo u v).run P w = .ok () w ∧ (Op.equal T u v).run P w = .ok (eqA xs ys) w ∧ ∃ us vs, u = .agg us ∧ v = .agg vs := by
  obtain ⟨us, rfl, hul, hur⟩ : ∃ us, u = .agg us ∧ us.size = xs.length ∧ ∀ (j : Nat) (x : AV) (v : Value), xs[j]? = some x → us[j]? = some v → Rel c x v := by
    cases hx with
    | data h => cases h
    | agg _ vs hl _ h => exact ⟨vs, rfl, hl, h⟩
  obtain ⟨vs, rfl, hvl, hvr⟩ : ∃ us, v = .agg us ∧ us.size = ys.length ∧ ∀ (j : Nat) (x : AV) (v : Value), ys[j]? = some x → us[j]? = some v → Rel c x v := by
    cases hy with
    | data h => cases h
    | agg _ vs hl _ h => exact ⟨vs, rfl, hl, h⟩
  unfold flatOf at hne h1 h2
  split at hne
  · rename_i hc
    rw [if_pos hc] at h1 h2
    cases hf : flatEq P 8 T with
    | none => rw [hf] at hne; exact (hne rfl).elim
    | some ks =>
      rw [hf] at h1 h2
      simp only [Option.getD_some] at h1 h2
      obtain ⟨f1, rfl⟩ := fit_rel (vs := us.toList) (by simp [hul]) (fun j x v hx hv => hur j x v hx (by simpa using hv)) h1
      obtain ⟨f2, rfl⟩ := fit_rel (vs := vs.toList) (by simp [hvl]) (fun j x v hx hv => hvr j x v hx (by simpa using hv)) h2
      have hmk : ∀ zs : Array Value, mkV P T zs.toList = .agg zs := by
        obtain ⟨kd, hu⟩ := flat_und hf
        have : ∃ fs, kd = .struct fs := by
          unfold flatEq at hf
          rw [hu] at hf
          have hk : (tkind P T).agg = true := hc.2
          unfold tkind at hk
          cases ht : ti P T with
          | none => rw [ht] at hk; simp [TK.agg] at hk
          | some x =>
            rw [ht] at hk
            obtain ⟨i, d, z, _, h4, _, rfl, _⟩ := ti_spec ht
            rw [hu] at h4
            cases h4
            simp only at hk
            split at hf
            · rename_i h; cases h; simp [kindOf, TK.agg] at hk
            · rename_i h; cases h; simp [kindOf, TK.agg] at hk
            · rename_i h; cases h; simp [kindOf, TK.agg] at hk
            · rename_i fs h; cases h; exact ⟨_, rfl⟩
            · cases hf
        obtain ⟨fs, rfl⟩ := this
        intro zs
        simp [mkV, hu]
      have he := run_equalIn_flat (w := w) 8 9992 T ks hf us.toList vs.toList f1 f2
      rw [hmk, hmk] at he
      rw [eqA_eqV f1 f2]
      refine ⟨?_, he, us, vs, rfl, rfl⟩
      cases op <;> simp at hop <;> simp [eqGuard, hc.1]
  · exact (hne rfl).elim
theorem iface_und {t : TypeId} (h : tkind P t = .iface) : ∃ ms, P.underlying t = some (.interface ms) := by
  obtain ⟨i, d, z, h1, h2, h3, h4, _⟩ := tk_spec h (by simp)
  cases d with
  | interface ms => exact ⟨ms, h2⟩
  | struct fs => simp only [kindOf] at h4; split at h4 <;> cases h4
  | array n e => simp only [kindOf] at h4; split at h4 <;> cases h4
  | slice e => simp only [kindOf] at h4; split at h4 <;> cases h4
  | _ => cases h4
theorem any_und {t : TypeId} (h : anyT P t = true) : ∃ ms, P.underlying t = some (.interface ms) ∧ ms.isEmpty = true := by
  unfold anyT at h
  split at h
  · rename_i ms hu; exact ⟨ms, hu, h⟩
  · cases h
theorem run_equal_ifn' {t a : TypeId} {ms} (hu : P.underlying t = some (.interface ms)) {v : Value} (n : Nat) : (Op.equalIn (n + 1) t (.iface a v) .nilIface).run P w = .ok false w := by
  simp [Op.equalIn, run_und hu]
theorem run_equal_ifn {t a : TypeId} {ms} (hu : P.underlying t = some (.interface ms)) {v : Value} : (Op.equalIn 10000 t (.iface a v) .nilIface).run P w = .ok false w := run_equal_ifn' hu 9999
theorem run_equal_nn' {t : TypeId} {ms} (hu : P.underlying t = some (.interface ms)) (n : Nat) : (Op.equalIn (n + 1) t .nilIface .nilIface).run P w = .ok true w := by
  simp [Op.equalIn, run_und hu]
theorem run_equal_nn {t : TypeId} {ms} (hu : P.underlying t = some (.interface ms)) : (Op.equalIn 10000 t .nilIface .nilIface).run P w = .ok true w := run_equal_nn' hu 9999
theorem guard_in {t : TypeId} {ms} (hu : P.underlying t = some (.interface ms)) (hms : ms.isEmpty = true) (n : Nat) : (Op.eqGuardIn (n + 1) t .nilIface .nilIface).run P w = .ok false w := by
  simp [Op.eqGuardIn, run_und hu, hms]
theorem guard_nn {op : BinOp} {t : TypeId} {ms} (hu : P.underlying t = some (.interface ms)) (hms : ms.isEmpty = true) {xo yo : Operand} : (eqGuard op t xo yo .nilIface .nilIface).run P w = .ok () w := by
  have h1 : (Op.eqGuardIn Op.maxDepth t .nilIface .nilIface).run P w = .ok false w := guard_in hu hms 9999
  unfold eqGuard
  cases op <;> simp [h1] <;> (try split) <;> simp [h1]
theorem bin_ok {op : BinOp} {T : TypeId} {x y : AV} {xo yo : Operand} {u v : Value} (hx : Rel c x u) (hy : Rel c y v) (hs : (aBin P op T x y).side) :
    ∃ r, ((do eqGuard op T xo yo u v; binOp op T u v : Sem Value)).run P w = .ok r w ∧ Rel c (aBin P op T x y).val r := by
  unfold aBin at *
  split at hs
  · rename_i k a k' b
    obtain rfl := hx.val_inv
    obtain rfl := hy.val_inv
    split at hs
    · exact ⟨_, by simp [eqGuard, binOp, Op.shift, Int.not_lt.2 hs], .val _⟩
    · exact ⟨_, by simp [eqGuard, binOp, Op.shift, Int.not_lt.2 hs], .val _⟩
    · obtain ⟨rfl, hs⟩ := hs
      cases op <;> simp only [aInt, SV.no] at hs ⊢ <;> first | (exact hs.elim) | skip
      all_goals simp [eqGuard, binOp, Op.intArith, Op.intDiv, Op.intCmp, Op.intBits, *]
      all_goals first | exact .val _ | (rename_i hne; exact .val _) | skip
  · rename_i a b
    obtain rfl := hx.val_inv
    obtain rfl := hy.val_inv
    cases op <;> simp only [aStr, SV.no] at hs ⊢ <;> first | (exact hs.elim) | skip
    case add =>
      have hm : ¬ (((a.size + b.size : Nat) : Int) > IntKind.i64.max) := by rw [IntKind.max_i64]; omega
      refine ⟨_, ?_, .val _ (by simpa [strOk, ByteArray.size_append] using hs)⟩
      simp only [eqGuard_add, pure_bind, binOp, Op.stringOp, if_neg hm, Sem.run_pure]
    all_goals simp [eqGuard, binOp, Op.stringOp, toList_inj, sLt]
    all_goals exact .val _
  · rename_i a b
    obtain rfl := hx.val_inv
    obtain rfl := hy.val_inv
    cases op <;> simp only [SV.no] at hs ⊢ <;> first | (exact hs.elim) | skip
    · obtain ⟨i, d, z, h1, h2, h3, h4, _⟩ := tk_spec hs (by simp)
      obtain rfl := kind_bool h4
      exact ⟨_, by simp only [eqGuard_at_bool, pure_bind]; exact run_eql_bool h2 a b w, .val _⟩
    · obtain ⟨i, d, z, h1, h2, h3, h4, _⟩ := tk_spec hs (by simp)
      obtain rfl := kind_bool h4
      exact ⟨_, by simp only [eqGuard_at_bool, pure_bind]; exact run_neq_bool h2 a b w, .val _⟩
  · rename_i xs ys
    cases op <;> simp only [SV.no] at hs ⊢ <;> first | (exact hs.elim) | skip
    · obtain ⟨g1, g2, us, vs, rfl, rfl⟩ := agg_eq (w := w) hx hy hs.1 hs.2.1 hs.2.2 .eql rfl xo yo
      exact ⟨_, by simp only [Sem.run_bind, g1, Result.andThen_ok, binOp, g2, Sem.run_pure], .val _⟩
    · obtain ⟨g1, g2, us, vs, rfl, rfl⟩ := agg_eq (w := w) hx hy hs.1 hs.2.1 hs.2.2 .neq rfl xo yo
      exact ⟨_, by simp only [Sem.run_bind, g1, Result.andThen_ok, binOp, g2, Sem.run_pure], .val _⟩
  · rename_i t x'
    obtain rfl := hy.val_inv
    obtain ⟨v', rfl⟩ : ∃ v', u = .iface t v' := by
      cases hx with
      | data h => cases h
      | iface _ _ v' h => exact ⟨v', rfl⟩
    cases op <;> simp only [SV.no] at hs ⊢ <;> first | (exact hs.elim) | skip
    · obtain ⟨ms, hu⟩ := iface_und hs
      exact ⟨_, by simp only [eqGuard, binOp, Sem.run_bind, Op.equal, Op.maxDepth, run_equal_ifn hu]; simp [eqGuard], .val _⟩
    · obtain ⟨ms, hu⟩ := iface_und hs
      exact ⟨_, by simp only [eqGuard, binOp, Sem.run_bind, Op.equal, Op.maxDepth, run_equal_ifn hu]; simp [eqGuard], .val _⟩
  · obtain rfl := hx.val_inv
    obtain rfl := hy.val_inv
    cases op <;> simp only [SV.no] at hs ⊢ <;> first | (exact hs.elim) | skip
    · obtain ⟨ms, hu, hms⟩ := any_und hs
      exact ⟨_, by simp only [Sem.run_bind, guard_nn hu hms, Result.andThen_ok, binOp, Op.equal, Op.maxDepth, run_equal_nn hu]; simp, .val _⟩
    · obtain ⟨ms, hu, hms⟩ := any_und hs
      exact ⟨_, by simp only [Sem.run_bind, guard_nn hu hms, Result.andThen_ok, binOp, Op.equal, Op.maxDepth, run_equal_nn hu]; simp, .val _⟩
  · exact hs.elim
end
end Go.Abs

namespace Go.Abs
theorem choose_list {α : Type} (p : Nat → α → Prop) : ∀ n, (∀ j, j < n → ∃ v, p j v) → ∃ vs : List α, vs.length = n ∧ ∀ j v, vs[j]? = some v → p j v
  | 0, _ => ⟨[], rfl, by simp⟩
  | n + 1, h => by
    obtain ⟨vs, hl, hp⟩ := choose_list p n (fun j hj => h j (by omega))
    obtain ⟨v, hv⟩ := h n (by omega)
    refine ⟨vs ++ [v], by simp [hl], fun j u hu => ?_⟩
    rcases getElem?_snoc hu with h1 | ⟨rfl, rfl⟩
    · exact hp j u h1
    · rw [hl]; exact hv
section
variable {P : Program} {c : Ctx} {h : AHeap} {w : World}
theorem addLit (b o n : Nat) : Addr.add ⟨b, o, none⟩ n = ⟨b, o + n, none⟩ := Addr.add_lit b o n
theorem load_ok {t : TypeId} {b o : Nat} {xs : List AV} (hk : tkind P t ≠ .other)
    (hc : ∀ (j : Nat) (x : AV), xs[j]? = some x → ∃ v, w.cell? ⟨b, o + j, none⟩ = some v ∧ Rel c x v ∧ v.oneCell' = true)
    (hs : (aLoad (tsize P t) (tkind P t).agg xs).side) : ∃ v, (loadVar t ⟨b, o, none⟩).run P w = .ok v w ∧ Rel c (aLoad (tsize P t) (tkind P t).agg xs).val v := by
  obtain ⟨i, d, z, h1, h2, h3, h4, h5, _⟩ := tk_spec rfl hk
  have ha := run_isAggD h2 (by rw [h4]; exact hk) w
  rw [h4] at ha
  unfold loadVar
  simp only [Sem.run_bind, ha, Result.andThen_ok]
  cases hag : (tkind P t).agg with
  | true =>
    simp only [hag, aLoad] at hs ⊢
    obtain ⟨vs, hl, hp⟩ := choose_list (fun j v => w.cell? ⟨b, o + j, none⟩ = some v ∧ (∀ x, xs[j]? = some x → Rel c x v) ∧ v.oneCell' = true) (tsize P t) (fun j hj => by
      have hlt : j < xs.length := by omega
      obtain ⟨v, hv, hr, h1⟩ := hc j xs[j] (by simp [hlt])
      exact ⟨v, hv, fun x hx => by simp [hlt] at hx; subst hx; exact hr, h1⟩)
    have hrun := run_loadCells_list (P := P) w ⟨b, o, none⟩ vs (fun j v hv => by rw [addLit]; exact (hp j v hv).1)
    rw [hl, h5] at hrun
    refine ⟨.agg vs.toArray, by simp [run_sizeI h1, hrun], .agg _ _ (by simp [hl]; omega) (fun j v hv => (hp j v (by simpa using hv)).2.2) fun j x v hx hv => ?_⟩
    rw [List.getElem?_take] at hx
    split at hx
    · exact (hp j v (by simpa using hv)).2.1 x hx
    · cases hx
  | false =>
    simp only [hag, aLoad] at hs ⊢
    obtain ⟨v, hv, hr, _⟩ := hc 0 (xs.getD 0 .top) (by simp [List.getD, hs])
    refine ⟨v, ?_, hr⟩
    simp only [Bool.false_eq_true, if_false, run_load]
    simp only [Nat.add_zero] at hv
    rw [hv]
theorem eptr_cells {cells : List AV} {v : Value} (hr : Rel c (.eptr cells) v) :
    ∃ b o, v = .pointer (some ⟨b, o, none⟩) ∧ (∀ (j : Nat) (x : AV), cells[j]? = some x → ∃ u, c.D b (o + j) = some u ∧ DRel c.D x u) := by
  cases hr with
  | data h => cases h
  | eptr cells b o g hD h => exact ⟨b, o, rfl, fun j x hx => ⟨g j, hD j x hx, h j x hx⟩⟩
theorem eptr_mk {cells : List AV} {b o : Nat} (h : ∀ (j : Nat) (x : AV), cells[j]? = some x → ∃ u, c.D b (o + j) = some u ∧ DRel c.D x u) : Rel c (.eptr cells) (.pointer (some ⟨b, o, none⟩)) :=
  .eptr cells b o (fun j => (c.D b (o + j)).getD undef) (fun j x hx => by obtain ⟨u, hu, _⟩ := h j x hx; simp [hu]) (fun j x hx => by obtain ⟨u, hu, hd⟩ := h j x hx; simpa [hu] using hd)
theorem ptr_inv {i off : Nat} {v : Value} (hr : Rel c (.ptr i off) v) : ∃ b, v = .pointer (some ⟨b, off, none⟩) ∧ c.blk i = some b := by
  cases hr with
  | data h => cases h
  | ptr i off b h => exact ⟨b, rfl, h⟩
theorem ptr_cells (hs : HSim c h w) {i off : Nat} {xs : List AV} {v : Value} (hr : Rel c (.ptr i off) v) (hi : h[i]? = some (.cells xs)) :
    ∃ b, v = .pointer (some ⟨b, off, none⟩) ∧ c.blk i = some b ∧ (∀ (j : Nat) (x : AV), (xs.drop off)[j]? = some x → ∃ u, w.cell? ⟨b, off + j, none⟩ = some u ∧ Rel c x u ∧ u.oneCell' = true) := by
  obtain ⟨b, rfl, hb⟩ := ptr_inv hr
  refine ⟨b, rfl, hb, fun j x hx => ?_⟩
  obtain ⟨b', vs, T, h1, h2, h3, h4⟩ := hs.obj i _ hi
  rw [hb] at h1
  cases h1
  rw [List.getElem?_drop] at hx
  have hlt : off + j < vs.size := by rw [h3]; exact (List.getElem?_eq_some_iff.1 hx).1
  have := h4 (off + j) x vs[off + j] hx (by simp [hlt])
  exact ⟨vs[off + j], by rw [cell_of_row w b _ vs T (0, 0) h2]; simp [hlt], this⟩
theorem own_inv (hs : HSim c h w) {i n e sz : Nat} {rows : List (List AV)} (hi : h[i]? = some (.uarr e sz rows)) (hn : rows.length = n) {v : Value} (hr : Rel c (.own i n) v) :
    c.sl i n = some v ∧ ∃ vs, w.ownsRow 0 e sz v n vs ∧ (∀ r, r ∈ rows → r.length = sz) ∧ ∀ (i' j : Nat) (r : List AV) (x : AV), rows[i']? = some r → r[j]? = some x → ∃ u, vs[i' * sz + j]? = some u ∧ DRel c.D x u := by
  subst hn
  cases hr with
  | data h => cases h
  | own i n v hv ho =>
    obtain ⟨v', vs, h1, _, _, h2, _, h4, h5⟩ := hs.obj i _ hi
    rw [hv] at h1
    cases h1
    exact ⟨hv, vs, h2, h4, h5⟩
theorem optr_inv {i n sz r q : Nat} {v : Value} (hr : Rel c (.optr i n sz r q) v) : ∃ b o len cap, v = .pointer (some ⟨b, o + (r * sz + q), none⟩) ∧ c.sl i n = some (.slice (some ⟨b, o, none⟩) len cap) := by
  cases hr with
  | data h => cases h
  | optr _ _ _ _ _ b o len cap h => exact ⟨b, o, len, cap, rfl, h⟩
theorem optr_cells (hs : HSim c h w) {i n e sz r : Nat} {rows : List (List AV)} (hi : h[i]? = some (.uarr e sz rows)) (hn : rows.length = n) {b o len cap : Nat} (hv : c.sl i n = some (.slice (some ⟨b, o, none⟩) len cap)) (hr : r < rows.length) :
    o = 0 ∧ ∀ (j : Nat) (x : AV), (rows.getD r [])[j]? = some x → ∃ u, w.cell? ⟨b, r * sz + j, none⟩ = some u ∧ DRel c.D x u := by
  subst hn
  obtain ⟨v', vs, h1, _, _, h2, _, h4, h5⟩ := hs.obj i _ hi
  rw [hv] at h1
  cases h1
  have hg : (Value.slice (some ⟨b, o, none⟩) len cap).ownBlock = some b := rfl
  constructor
  · rcases h2.2 with ⟨e1, _⟩ | ⟨g, cp, cur, e1, _⟩
    · cases e1
    · cases e1; rfl
  · intro j x hx
    have hrow : rows[r]? = some (rows.getD r []) := by simp [List.getD, hr]
    obtain ⟨u, hu, hd⟩ := h5 r j _ x hrow hx
    have := h2.cells hg _ u hu
    rw [addLit, Nat.zero_add] at this
    exact ⟨u, this, hd⟩
theorem loadAt_ok {t : TypeId} {a : AV} {u : Value} (hs : HSim c h w) (hr : Rel c a u) (hside : (aLoadAt P t a h).side) :
    ∃ v, (Instr.loadAt t u).run P w = .ok v w ∧ Rel c (aLoadAt P t a h).val v := by
  unfold aLoadAt at hside ⊢
  cases a with
  | ptr i off =>
    simp only at hside ⊢
    cases hi : h[i]? with
    | none => simp [hi, SV.no] at hside
    | some ob =>
      cases ob with
      | cells xs =>
        simp only [hi] at hside ⊢
        obtain ⟨b, rfl, hb, hc⟩ := ptr_cells hs hr hi
        obtain ⟨v, hv, hrel⟩ := load_ok (P := P) (t := t) hside.2 hc hside.1
        exact ⟨v, by simp [Instr.loadAt, Instr.sureAddr, hv], hrel⟩
      | _ => simp [hi, SV.no] at hside
  | eptr cells =>
    simp only at hside ⊢
    obtain ⟨b, o, rfl, hc⟩ := eptr_cells hr
    obtain ⟨v, hv, hrel⟩ := load_ok (P := P) (w := w) (t := t) (c := c) (b := b) (o := o) hside.2 (fun j x hx => by
      obtain ⟨u, hu, hd⟩ := hc j x hx
      exact ⟨u, hs.data _ _ _ hu, .data hd, hd.one⟩) hside.1
    exact ⟨v, by simp [Instr.loadAt, Instr.sureAddr, hv], hrel⟩
  | optr i n sz r q =>
    simp only at hside ⊢
    cases hi : h[i]? with
    | none => simp [hi, SV.no] at hside
    | some ob =>
      cases ob with
      | uarr e sz' rows =>
        simp only [hi] at hside ⊢
        obtain ⟨hn, rfl, hr', hl, hk⟩ := hside
        obtain ⟨b, o, len, cap, rfl, hv⟩ := optr_inv hr
        obtain ⟨rfl, hc⟩ := optr_cells hs hi hn hv hr'
        obtain ⟨v, hv', hrel⟩ := load_ok (P := P) (w := w) (t := t) (c := c) (b := b) (o := 0 + (r * sz' + q)) hk (fun j x hx => by
          rw [List.getElem?_drop] at hx
          obtain ⟨u, hu, hd⟩ := hc _ x hx
          exact ⟨u, by rw [Nat.zero_add, Nat.add_assoc]; exact hu, .data hd, hd.one⟩) hl
        exact ⟨v, by simp only [Instr.loadAt, Instr.sureAddr, Sem.run_bind, Sem.run_pure, Result.andThen_ok]; exact hv', hrel⟩
      | _ => simp [hi, SV.no] at hside
  | _ => exact hside.elim
theorem aField_spec {s f o n : Nat} (hf : aField P s f = some (o, n)) : ∃ l fd i, P.underlying s = some (.struct l) ∧ l[f]? = some fd ∧ fd.offset = o ∧ P.info? fd.type = some i ∧ i.size = n ∧ 0 < n := by
  unfold aField at hf
  split at hf
  · rename_i fs hk
    obtain ⟨i, d, z, h1, h2, h3, h4, h5, _⟩ := tk_spec hk (by simp)
    obtain ⟨l, rfl, hall, rfl⟩ := kind_struct h4
    split at hf
    · rename_i o' n' hl
      split at hf
      · cases hf
      · rename_i hn
        cases hf
        simp only [List.getElem?_map, Option.map_eq_some_iff, Prod.mk.injEq] at hl
        obtain ⟨fd, hfd, rfl, rfl⟩ := hl
        obtain ⟨i', hi'⟩ := hall fd (List.mem_of_getElem? hfd)
        refine ⟨l, fd, i', h2, by simpa using hfd, rfl, hi', by simp [Program.cellsOf, hi'], by omega⟩
    · cases hf
  · cases hf
theorem fieldAt_run {s f o n b off : Nat} (hf : aField P s f = some (o, n)) : (Instr.fieldAt s (.pointer (some ⟨b, off, none⟩)) f).run P w = .ok (.pointer (some ⟨b, off + o, none⟩)) w := by
  obtain ⟨l, fd, i, h1, h2, rfl, h3, rfl, h4⟩ := aField_spec hf
  have hne : ¬ i.size = 0 := by omega
  simp [Instr.fieldAt, run_und h1, h2, Instr.sureAddr, fieldPlace, run_sizeI h3, hne, addLit]
theorem indexAddr_ok {T : TypeId} {x i : AV} {u v : Value} (hs : HSim c h w) (hx : Rel c x u) (hi : Rel c i v) (hside : (aIndexAddr P T x i h).side) :
    ∃ r, (Instr.indexAt T u v).run P w = .ok r w ∧ Rel c (aIndexAddr P T x i h).val r := by
  unfold aIndexAddr at hside ⊢
  split at hside
  · rename_i e sz rows k n hk
    obtain ⟨h0, hlt, hrow, hsz⟩ := hside
    obtain rfl := hi.val_inv
    obtain ⟨i', d, z, h1, h2, h3, h4, h5, _⟩ := tk_spec hk (by simp)
    obtain ⟨rfl, ie, hie, rfl⟩ := kind_slice h4
    have hd := hx.slice_inv
    cases hd with
    | nil => simp at hlt
    | empty a => simp at hlt
    | slice rows b off cap sz g hsz' hB hc hD hr =>
      have hrow' : rows[n.toNat]? = some (rows.getD n.toNat []) := by simp [List.getD, hlt]
      have hszeq : sz = ie.size := by rw [← hrow]; exact (hsz' _ (List.mem_of_getElem? hrow')).symm
      subst hszeq
      have hcond : (0 ≤ n ∧ n < (rows.length : Int)) := ⟨h0, by omega⟩
      refine ⟨.pointer (some ⟨b, off + n.toNat * ie.size, none⟩), ?_, eptr_mk fun j x hx => ?_⟩
      · simp [Instr.indexAt, asIntOf, run_und h2, hcond, run_sizeI hie, addLit]
      · exact ⟨_, hD n.toNat j _ x hrow' hx, hr n.toNat j _ x hrow' hx⟩
  · rename_i len e sz o off k n hk
    obtain ⟨h0, hlt, hsz⟩ := hside
    obtain rfl := hi.val_inv
    obtain ⟨i', d, z, h1, h2, h3, h4, h5, _⟩ := tk_spec hk (by simp)
    obtain ⟨rfl, ie, hie, rfl⟩ := kind_array h4
    obtain ⟨b, rfl, hb⟩ := ptr_inv hx
    have hcond : (0 ≤ n ∧ n < (len : Int)) := ⟨h0, by omega⟩
    exact ⟨.pointer (some ⟨b, off + n.toNat * ie.size, none⟩), by simp [Instr.indexAt, asIntOf, Instr.sureAddr, run_und h2, hcond, run_sizeI hie, addLit], .ptr _ _ _ hb⟩
  · rename_i len e sz cells k n hk
    obtain ⟨h0, hlt, hsz⟩ := hside
    obtain rfl := hi.val_inv
    obtain ⟨i', d, z, h1, h2, h3, h4, h5, _⟩ := tk_spec hk (by simp)
    obtain ⟨rfl, ie, hie, rfl⟩ := kind_array h4
    obtain ⟨b, off, rfl, hc⟩ := eptr_cells hx
    have hcond : (0 ≤ n ∧ n < (len : Int)) := ⟨h0, by omega⟩
    refine ⟨.pointer (some ⟨b, off + n.toNat * ie.size, none⟩), by simp [Instr.indexAt, asIntOf, Instr.sureAddr, run_und h2, hcond, run_sizeI hie, addLit], eptr_mk fun j x hx => ?_⟩
    rw [List.getElem?_drop] at hx
    obtain ⟨u, hu, hd⟩ := hc _ x hx
    exact ⟨u, by rw [Nat.add_assoc]; exact hu, hd⟩
  · rename_i len e sz o m sz' r q k n hk
    obtain ⟨h0, hlt, hsz⟩ := hside
    obtain rfl := hi.val_inv
    obtain ⟨i', d, z, h1, h2, h3, h4, h5, _⟩ := tk_spec hk (by simp)
    obtain ⟨rfl, ie, hie, rfl⟩ := kind_array h4
    obtain ⟨b, o', len', cap, rfl, hv⟩ := optr_inv hx
    have hcond : (0 ≤ n ∧ n < (len : Int)) := ⟨h0, by omega⟩
    refine ⟨.pointer (some ⟨b, o' + (r * sz' + q) + n.toNat * ie.size, none⟩), by simp [Instr.indexAt, asIntOf, Instr.sureAddr, run_und h2, hcond, run_sizeI hie, addLit], ?_⟩
    have := Rel.optr (c := c) o m sz' r (q + n.toNat * ie.size) b o' len' cap hv
    rw [show o' + (r * sz' + q) + n.toNat * ie.size = o' + (r * sz' + (q + n.toNat * ie.size)) by omega]
    exact this
  · rename_i e sz o m k n hk
    split at hside
    · rename_i e' sz' rows ho
      simp only [ho]
      obtain ⟨hm, rfl, h0, hlt, hsz⟩ := hside
      obtain rfl := hi.val_inv
      obtain ⟨i', d, z, h1, h2, h3, h4, h5, _⟩ := tk_spec hk (by simp)
      obtain ⟨rfl, ie, hie, rfl⟩ := kind_slice h4
      obtain ⟨hv, vs, hown, _⟩ := own_inv hs ho hm hx
      rcases hown.2 with ⟨rfl, hz⟩ | ⟨g, cap, cur, rfl, _⟩
      · omega
      · have hcond : (0 ≤ n ∧ n < (m : Int)) := ⟨h0, by omega⟩
        refine ⟨.pointer (some ⟨g, 0 + n.toNat * ie.size, none⟩), by simp [Instr.indexAt, asIntOf, run_und h2, hcond, run_sizeI hie, addLit], ?_⟩
        exact .optr o m ie.size n.toNat 0 g 0 m cap hv
    · exact hside.elim
  · exact hside.elim
theorem index_ok {T : TypeId} {x i : AV} {u v : Value} (hx : Rel c x u) (hi : Rel c i v) (hside : (aIndex P T x i).side) :
    ∃ r, (Instr.index T u v).run P w = .ok r w ∧ Rel c (aIndex P T x i).val r := by
  unfold aIndex at hside ⊢
  split at hside
  · rename_i s k n hk
    obtain ⟨h0, hlt⟩ := hside
    obtain rfl := hi.val_inv
    obtain rfl := hx.val_inv
    obtain ⟨i', d, z, h1, h2, h3, h4, h5, _⟩ := tk_spec hk (by simp)
    obtain rfl := kind_string h4
    have hb : (if 0 ≤ n then s[n.toNat]? else none) = some (byteAt s n) := by
      have h1 : s.data.size = s.size := rfl
      have hlt' : n.toNat < s.data.size := by rw [h1]; exact hlt
      rw [if_pos h0]
      show (if h : n.toNat < s.size then some s[n.toNat] else none) = _
      rw [dif_pos hlt]
      congr 1
      show s.data[n.toNat] = _
      simp [byteAt, List.getD, Array.getElem?_eq_getElem hlt']
    exact ⟨_, by simp [Instr.index, asIntOf, run_und h2, hb], .val _⟩
  · rename_i len e sz cs k n hk
    obtain ⟨h0, hlt, hcl, rfl, ho, hag⟩ := hside
    obtain rfl := hi.val_inv
    obtain ⟨i', d, z, h1, h2, h3, h4, h5, _⟩ := tk_spec hk (by simp)
    obtain ⟨rfl, ie, hie, hsz⟩ := kind_array h4
    obtain ⟨i2, d2, z2, g1, g2, g3, g4, g5, _⟩ := tk_spec rfl ho
    have ha := run_isAggD g2 (by rw [g4]; exact ho) w
    rw [g4, hag] at ha
    have hcond : (0 ≤ n ∧ n < (len : Int)) := ⟨h0, by omega⟩
    cases hx with
    | data hd => cases hd
    | agg _ vs hl hone hr =>
      have hlv : n.toNat < vs.size := by omega
      refine ⟨vs[n.toNat], ?_, hr n.toNat _ _ (by rw [List.getD_eq_getElem?_getD, List.getElem?_eq_getElem hcl, Option.getD_some]) (by simp [hlv])⟩
      simp [Instr.index, asIntOf, run_und h2, hcond, run_sizeI hie, hsz, part, ha, hlv]
  · exact hside.elim
theorem len_ok {T : TypeId} {x : AV} {u : Value} (hs : HSim c h w) (hx : Rel c x u) (hside : (aLen P T x h).side) (ty : TypeId) :
    ∃ r, (Builtin.len_ #[T] ty #[u]).run P w = .ok r w ∧ Rel c (aLen P T x h).val r := by
  have hlen : (Builtin.len_ #[T] ty #[u]).run P w = (do
      match ← underlying T, u with
      | .string, .string s => pure (goInt s.size)
      | .array n _, _ => pure (goInt n)
      | .pointer arr, _ =>
        let .array n _ ← underlying arr | stuck "len: pointer to array expected"
        pure (goInt n)
      | .slice _, .slice _ n _ => pure (goInt n)
      | .map _ _, .map none | .chan _ _, .chan none => pure (goInt 0)
      | .map _ _, .map (some r) =>
        let .map entries _ ← getObj r | stuck "len: map expected"
        pure (goInt entries.size)
      | .chan _ _, .chan (some r) =>
        let .chan _ buf _ _ _ timer ← getObj r | stuck "len: channel expected"
        pure (goInt (if timer then 0 else buf.size))
      | _, _ => stuck "len: string, array, pointer to array, slice, map or channel expected" : Sem Value).run P w := by
    rfl
  rw [hlen]
  unfold aLen at hside ⊢
  split at hside
  · rename_i e sz rows hk
    obtain ⟨i', d, z, h1, h2, h3, h4, h5, _⟩ := tk_spec hk (by simp)
    obtain ⟨rfl, ie, hie, rfl⟩ := kind_slice h4
    have hd := hx.slice_inv
    cases hd with
    | nil => exact ⟨.int .i64 0, by simp [run_und h2, goInt], .val _⟩
    | empty a => exact ⟨.int .i64 0, by simp [run_und h2, goInt], .val _⟩
    | slice rows b off cap sz g hsz' hB hc hD hr => exact ⟨.int .i64 rows.length, by simp [run_und h2, goInt], .val _⟩
  · rename_i e sz hk
    obtain ⟨i', d, z, h1, h2, h3, h4, h5, _⟩ := tk_spec hk (by simp)
    obtain ⟨rfl, ie, hie, rfl⟩ := kind_slice h4
    cases hx with
    | data h => cases h
    | nils => exact ⟨.int .i64 0, by simp [run_und h2, goInt], .val _⟩
  · rename_i e sz o m hk
    split at hside
    · rename_i e' sz' rows ho
      simp only [ho]
      obtain ⟨i', d, z, h1, h2, h3, h4, h5, _⟩ := tk_spec hk (by simp)
      obtain ⟨rfl, ie, hie, rfl⟩ := kind_slice h4
      obtain ⟨hv, vs, hown, _⟩ := own_inv hs ho hside hx
      have hm : rows.length = m := hside
      rcases hown.2 with ⟨rfl, hz⟩ | ⟨g, cap, cur, rfl, _⟩
      · exact ⟨.int .i64 0, by simp [run_und h2, goInt], by rw [hm, hz]; exact .val _⟩
      · exact ⟨.int .i64 m, by simp [run_und h2, goInt], by rw [hm]; exact .val _⟩
    · exact hside.elim
  · rename_i s hk
    obtain ⟨i', d, z, h1, h2, h3, h4, h5, _⟩ := tk_spec hk (by simp)
    obtain rfl := kind_string h4
    obtain rfl := hx.val_inv
    exact ⟨.int .i64 s.size, by simp [run_und h2, goInt], .val _⟩
  · rename_i y n e sz hk
    obtain ⟨i', d, z, h1, h2, h3, h4, h5, _⟩ := tk_spec hk (by simp)
    obtain ⟨rfl, ie, hie, rfl⟩ := kind_array h4
    exact ⟨.int .i64 n, by simp [run_und h2, goInt], .val _⟩
  · exact hside.elim
end
end Go.Abs

namespace Go.Abs
theorem Rel.one {c : Ctx} {x : AV} {v : Value} (h : Rel c x v) (h1 : x.one = true) : v.oneCell' = true := by
  cases h with
  | data h => exact h.one
  | top v => simp [AV.one] at h1
  | val v => exact h1
  | nils => rfl
  | agg => simp [AV.one] at h1
  | tuple => simp [AV.one] at h1
  | ptr => rfl
  | eptr => rfl
  | optr => rfl
  | mapr => rfl
  | fn => rfl
  | iface => rfl
  | own i n v h ho => exact ho
  | opt => simp [AV.one] at h1
theorem one_cells {v : Value} (h : v.oneCell' = true) : v.cells = #[v] := by
  cases v <;> first | rfl | simp [Value.oneCell'] at h
theorem Rel.cells {c : Ctx} {x : AV} {v : Value} (h : Rel c x v) (h1 : x.cellsOk = true) :
    v.cells.size = x.cells.length ∧ ∀ (j : Nat) (y : AV) (u : Value), x.cells[j]? = some y → v.cells[j]? = some u → Rel c y u ∧ u.oneCell' = true := by
  have single : ∀ (x : AV) (v : Value), Rel c x v → x.one = true → x.cells = [x] → v.cells.size = x.cells.length ∧ ∀ (j : Nat) (y : AV) (u : Value), x.cells[j]? = some y → v.cells[j]? = some u → Rel c y u ∧ u.oneCell' = true := by
    intro x v hr ho hx
    have hv := hr.one ho
    rw [hx, one_cells hv]
    refine ⟨rfl, fun j y u hy hu => ?_⟩
    cases j with
    | zero => simp at hy hu; subst hy; subst hu; exact ⟨hr, hv⟩
    | succ j => simp at hy
  cases x with
  | agg xs =>
    cases h with
    | data h => cases h
    | agg xs vs hl ho hr => exact ⟨hl, fun j y u hy hu => ⟨hr j y u hy hu, ho j u hu⟩⟩
  | top => simp [AV.cellsOk, AV.one] at h1
  | tuple => simp [AV.cellsOk, AV.one] at h1
  | opt => simp [AV.cellsOk, AV.one] at h1
  | _ => exact single _ _ h h1 rfl
section
variable {P : Program} {c : Ctx} {h : AHeap} {w : World}
theorem bound_run {d : Int} {x : Option AV} {u : Option Value} {n : Int} (hb : boundAV d x = some n) (hx : ∀ a, x = some a → ∃ v, u = some v ∧ Rel c a v) (hn : x = none → u = none) :
    (u = none ∧ n = d) ∨ (∃ k, u = some (.int k n)) := by
  unfold boundAV at hb
  split at hb
  · rename_i h0; exact .inl ⟨hn rfl, by simpa using hb.symm⟩
  · rename_i k m
    obtain ⟨v, hv, hr⟩ := hx _ rfl
    obtain rfl := hr.val_inv
    simp at hb
    subst hb
    exact .inr ⟨k, hv⟩
  · cases hb
theorem run_sliceBound {k : IntKind} {n : Int} {y : Nat} {code : BoundsCode} (h0 : 0 ≤ n) (h1 : n ≤ y) : (Instr.sliceBound (.int k n) y code).run P w = .ok n.toNat w := by
  simp [Instr.sliceBound, asIntOf, h0, h1]
theorem run_sliceBounds {isS : Bool} {len cap : Nat} {lo hi : Option Value} {l h' : Int} (hl : (lo = none ∧ l = 0) ∨ ∃ k, lo = some (.int k l)) (hh : (hi = none ∧ h' = len) ∨ ∃ k, hi = some (.int k h'))
    (h0 : 0 ≤ l) (h1 : l ≤ h') (h2 : h' ≤ len) (h3 : len ≤ cap) : (Instr.sliceBounds isS len cap lo hi none).run P w = .ok (l.toNat, h'.toNat, cap) w := by
  have hc : h' ≤ cap := by omega
  have hn : l ≤ (h'.toNat : Int) := by omega
  have h0' : 0 ≤ h' := by omega
  rcases hl with ⟨rfl, rfl⟩ | ⟨k, rfl⟩ <;> rcases hh with ⟨rfl, rfl⟩ | ⟨k', rfl⟩
  · simp [Instr.sliceBounds]
  · simp [Instr.sliceBounds, run_sliceBound h0' hc]
  · simp [Instr.sliceBounds, run_sliceBound h0 h1]
  · simp [Instr.sliceBounds, run_sliceBound h0' hc, run_sliceBound h0 hn]
theorem slice_ok {T : TypeId} {x : AV} {lo hi mx : Option AV} {u : Value} {lo' hi' mx' : Option Value} (hx : Rel c x u)
    (hlo : ∀ a, lo = some a → ∃ v, lo' = some v ∧ Rel c a v) (hlo0 : lo = none → lo' = none) (hhi : ∀ a, hi = some a → ∃ v, hi' = some v ∧ Rel c a v) (hhi0 : hi = none → hi' = none) (hmx : mx = none → mx' = none)
    (hside : (aSlice P T x lo hi mx).side) : ∃ r, (Instr.sliceAt T u lo' hi' mx').run P w = .ok r w ∧ Rel c (aSlice P T x lo hi mx).val r := by
  unfold aSlice at hside ⊢
  split at hside
  · exact hside.elim
  · obtain rfl := hmx rfl
    split at hside
    · rename_i e sz rows hk
      obtain ⟨i', d, z, h1, h2, h3, h4, h5, _⟩ := tk_spec hk (by simp)
      obtain ⟨rfl, ie, hie, rfl⟩ := kind_slice h4
      split at hside
      · rename_i l hh hl hh'
        obtain ⟨ha, hb, hc, hall⟩ := hside
        have e1 := bound_run hl hlo hlo0
        have e2 := bound_run hh' hhi hhi0
        have hd := hx.slice_inv
        cases hd with
        | nil =>
          have hl0 : l = 0 := by simp at hc; omega
          have hh0 : hh = 0 := by simp at hc; omega
          subst hl0; subst hh0
          refine ⟨.slice none 0 0, ?_, by simpa using .data .nil⟩
          have := run_sliceBounds (P := P) (w := w) (isS := true) (len := 0) (cap := 0) e1 e2 (by omega) (by omega) (by omega) (Nat.le_refl _)
          simp [Instr.sliceAt, Instr.slice, run_und h2, this, run_sizeI hie]
        | empty a =>
          have hl0 : l = 0 := by simp at hc; omega
          have hh0 : hh = 0 := by simp at hc; omega
          subst hl0; subst hh0
          refine ⟨.slice (some a) 0 0, ?_, by simpa using .data (.empty a)⟩
          have := run_sliceBounds (P := P) (w := w) (isS := true) (len := 0) (cap := 0) e1 e2 (by omega) (by omega) (by omega) (Nat.le_refl _)
          simp [Instr.sliceAt, Instr.slice, run_und h2, this, run_sizeI hie]
        | slice rows b off cap sz g hsz' hB hc' hD hr =>
          have hrun := run_sliceBounds (P := P) (w := w) (isS := true) (len := rows.length) (cap := cap) e1 e2 ha hb hc hc'
          have hlen : ((rows.take hh.toNat).drop l.toNat).length = hh.toNat - l.toNat := by simp; omega
          have hget : ∀ (i : Nat) (r : List AV), ((rows.take hh.toNat).drop l.toNat)[i]? = some r → rows[l.toNat + i]? = some r := fun i r hi => by
            rw [List.getElem?_drop, List.getElem?_take] at hi
            split at hi
            · exact hi
            · cases hi
          have hres : ∀ ad : Option Addr, (ad = some ⟨b, off, none⟩ ∧ cap = l.toNat) ∨ ad = some ⟨b, off + l.toNat * ie.size, none⟩ → (0 < ((rows.take hh.toNat).drop l.toNat).length → sz = ie.size) →
              Rel c (.slice ((rows.take hh.toNat).drop l.toNat)) (.slice ad (hh.toNat - l.toNat) (cap - l.toNat)) := by
            intro ad had hsz0
            rw [← hlen]
            have base : ∀ o, (0 < ((rows.take hh.toNat).drop l.toNat).length → o = off + l.toNat * sz) → Rel c (.slice ((rows.take hh.toNat).drop l.toNat)) (.slice (some ⟨b, o, none⟩) ((rows.take hh.toNat).drop l.toNat).length (cap - l.toNat)) := by
              intro o ho
              refine .data (.slice _ b o _ sz (fun i j => g (l.toNat + i) j) (fun r hr' => hsz' r (List.mem_of_mem_take (List.mem_of_mem_drop hr'))) (by rw [hlen]; omega) (by rw [hlen]; omega) (fun i j r x hr' hx' => ?_) fun i j r x hr' hx' => hr _ j r x (hget i r hr') hx')
              have hpos : 0 < ((rows.take hh.toNat).drop l.toNat).length := Nat.lt_of_le_of_lt (Nat.zero_le _) (List.getElem?_eq_some_iff.1 hr').1
              have := hD _ j r x (hget i r hr') hx'
              rw [ho hpos]
              rw [Nat.add_mul] at this
              rw [show off + l.toNat * sz + i * sz + j = off + (l.toNat * sz + i * sz) + j from by omega]
              exact this
            rcases had with ⟨rfl, hcap⟩ | rfl
            · exact base off fun hpos => by rw [hlen] at hpos; omega
            · exact base _ fun hpos => by rw [hsz0 hpos]
          have hszr : 0 < ((rows.take hh.toNat).drop l.toNat).length → sz = ie.size := fun hpos => by
            rw [hlen] at hpos
            have hlt : l.toNat < rows.length := by omega
            rw [← hsz' rows[l.toNat] (by simp), hall rows[l.toNat] (by simp)]
          refine ⟨.slice (if cap = l.toNat then some ⟨b, off, none⟩ else some ⟨b, off + l.toNat * ie.size, none⟩) (hh.toNat - l.toNat) (cap - l.toNat), ?_, ?_⟩
          · simp [Instr.sliceAt, Instr.slice, run_und h2, hrun, run_sizeI hie, addLit]
          · split
            · rename_i hcl; exact hres _ (.inl ⟨rfl, hcl⟩) hszr
            · exact hres _ (.inr rfl) hszr
      · exact hside.elim
    · rename_i s hk
      obtain ⟨i', d, z, h1, h2, h3, h4, h5, _⟩ := tk_spec hk (by simp)
      obtain rfl := kind_string h4
      obtain rfl := hx.val_inv
      split at hside
      · rename_i l hh hl hh'
        obtain ⟨ha, hb, hc⟩ := hside
        have hrun := run_sliceBounds (P := P) (w := w) (isS := false) (len := s.size) (cap := s.size) (bound_run hl hlo hlo0) (bound_run hh' hhi hhi0) ha hb hc (Nat.le_refl _)
        exact ⟨_, by simp [Instr.sliceAt, Instr.slice, run_und h2, hrun], .val _ (by
          have hso := val_ok hx
          simp only [strOk, decide_eq_true_eq] at hso ⊢
          rw [ByteArray.size_extract]
          omega)⟩
      · exact hside.elim
    · exact hside.elim
theorem min_ok {x y : AV} {u v : Value} (hx : Rel c x u) (hy : Rel c y v) (hside : (aMin x y).side) (ts : Array TypeId) (ty : TypeId) : ∃ r, (Builtin.min_ ts ty #[u, v]).run P w = .ok r w ∧ Rel c (aMin x y).val r := by
  unfold aMin at hside ⊢
  split at hside
  · rename_i k a k' b
    simp only at hside
    subst hside
    obtain rfl := hx.val_inv
    obtain rfl := hy.val_inv
    exact ⟨_, by simp [Builtin.min_, Builtin.min2], .val _⟩
  · exact hside.elim
theorem max_ok {x y : AV} {u v : Value} (hx : Rel c x u) (hy : Rel c y v) (hside : (aMax x y).side) (ts : Array TypeId) (ty : TypeId) : ∃ r, (Builtin.max_ ts ty #[u, v]).run P w = .ok r w ∧ Rel c (aMax x y).val r := by
  unfold aMax at hside ⊢
  split at hside
  · rename_i k a k' b
    simp only at hside
    subst hside
    obtain rfl := hx.val_inv
    obtain rfl := hy.val_inv
    exact ⟨_, by simp [Builtin.max_, Builtin.max2], .val _⟩
  · exact hside.elim
theorem conv_ok {h : AHeap} (hs : HSim c h w) {src dst : TypeId} {x : AV} {u : Value} (hx : Rel c x u) (hside : (aConv P src dst x).side) : ∃ r, (convert src dst u).run P w = .ok r w ∧ Rel c (aConv P src dst x).val r := by
  unfold aConv at hside ⊢
  split at hside
  · rename_i k k' n hk
    obtain ⟨i', d, z, h1, h2, h3, h4, h5, _⟩ := tk_spec hk (by simp)
    obtain rfl := kind_int h4
    obtain ⟨i'', d', z', g1, g2, _⟩ := tk_spec (P := P) (t := src) rfl hside
    obtain rfl := hx.val_inv
    refine ⟨.int k (k.wrap n), ?_, .val _⟩
    simp only [convert, Sem.run_bind, run_und h2, run_und g2, Result.andThen_ok]
    cases d' <;> simp [Conv.intToInt]
  · rename_i s hk
    obtain ⟨i', d, z, h1, h2, h3, h4, h5, _⟩ := tk_spec hk (by simp)
    obtain rfl := kind_string h4
    obtain ⟨i'', d', z', g1, g2, _⟩ := tk_spec (P := P) (t := src) rfl hside
    obtain rfl := hx.val_inv
    refine ⟨.string s, ?_, .val _ (val_ok hx)⟩
    simp only [convert, Sem.run_bind, run_und h2, run_und g2, Result.andThen_ok]
    cases d' <;> simp
  · rename_i n hk
    obtain ⟨i', d, z, h1, h2, h3, h4, h5, _⟩ := tk_spec hk (by simp)
    obtain rfl := kind_string h4
    simp only [byteSl] at hside
    split at hside
    · rename_i e sz hks
      obtain ⟨rfl, hke⟩ := hside
      obtain ⟨_, ds, _, _, g2, _, g4, _⟩ := tk_spec hks (by simp)
      obtain ⟨rfl, _⟩ := kind_slice g4
      obtain ⟨_, de, _, _, f2, _, f4, _⟩ := tk_spec hke (by simp)
      obtain rfl := kind_int f4
      have hd := hx.slice_inv
      cases hd with
      | slice _ b off cap sz g hsz hB hc hD hr =>
        have hc0 : w.cell? ⟨b, off, none⟩ = some (g 0 0) := hs.data _ _ _ (by simpa using hD 0 0 _ _ rfl rfl)
        have hv : g 0 0 = .int .u8 n := by
          have h0 : DRel c.D (.val (.int .u8 n)) (g 0 0) := hr 0 0 _ _ rfl rfl
          generalize g 0 0 = y at h0
          cases h0; rfl
        rw [hv] at hc0
        have hrun := run_loadCells_list (P := P) w ⟨b, off, none⟩ [.int .u8 n] (fun j v hj => by
          cases j with
          | zero => simp at hj; subst hj; simpa [addLit] using hc0
          | succ j => simp at hj)
        refine ⟨.string ⟨#[UInt8.ofNat n.toNat]⟩, ?_, .val _ (by simp [strOk, ByteArray.size])⟩
        simp only [List.length_singleton] at hrun
        simp only [convert, Sem.run_bind, run_und h2, run_und g2, run_und f2, Result.andThen_ok, Conv.bytesToString, List.length_singleton, hrun]
        simp [ByteArray.push, ByteArray.empty, ByteArray.emptyWithCapacity]
        rfl
    · exact hside.elim
  · exact hside.elim
theorem noIface {d : TypeDesc} (h1 : kindOf P d ≠ .iface) : ∀ ms, d ≠ .interface ms := fun ms h => h1 (by rw [h]; rfl)
theorem assert_ok {src dst : TypeId} {ok : Bool} {x : AV} {u : Value} (hx : Rel c x u) (hside : (aAssert P dst ok x).side) : ∃ r, (Instr.typeAssert u src dst ok).run P w = .ok r w ∧ Rel c (aAssert P dst ok x).val r := by
  have tup : ∀ (y : AV) (v : Value) (b : Bool), Rel c y v → Rel c (.tuple [y, .val (.bool b)]) (.tuple #[v, .bool b]) := fun y v b hy => by
    refine .tuple _ _ rfl fun j z z' h1 h2 => ?_
    match j with
    | 0 => simp at h1 h2; subst h1; subst h2; exact hy
    | 1 => simp at h1 h2; subst h1; subst h2; exact .val _
    | j + 2 => simp at h1
  unfold aAssert at hside ⊢
  split at hside
  · rename_i t v
    obtain ⟨v', rfl, hv⟩ : ∃ v', u = .iface t v' ∧ Rel c v v' := by
      cases hx with
      | data h => cases h
      | iface _ _ v' h => exact ⟨v', rfl, h⟩
    cases ht : t == dst with
    | true =>
      simp only [ht] at hside ⊢
      obtain ⟨i, d, z, h1, h2, h3, h4, _⟩ := tk_spec (P := P) (t := dst) rfl hside.2
      have hd := noIface (P := P) (d := d) (by rw [h4]; exact hside.1)
      have he : t = dst := by simpa using ht
      refine ⟨.tuple #[v', .bool true], ?_, tup _ _ _ hv⟩
      cases d <;> first | (exact (hd _ rfl).elim) | simp [Instr.typeAssert, run_und h2, he]
    | false =>
      simp only [ht] at hside ⊢
      split at hside
      · rename_i z hz
        simp only [hz]
        obtain ⟨i, d, z', h1, h2, h3, h4, _⟩ := tk_spec (P := P) (t := dst) rfl hside.2
        have hd := noIface (P := P) (d := d) (by rw [h4]; exact hside.1)
        have he : ¬ t = dst := by simpa using ht
        obtain ⟨zv, hzv, hzr⟩ := zeroAV_ok (P := P) (w := w) (c := c) hz
        refine ⟨.tuple #[zv, .bool false], ?_, tup _ _ _ hzr⟩
        cases d <;> first | (exact (hd _ rfl).elim) | simp [Instr.typeAssert, run_und h2, he, hzv]
      · exact hside.elim
  · rename_i t v
    obtain ⟨v', rfl, hv⟩ : ∃ v', u = .iface t v' ∧ Rel c v v' := by
      cases hx with
      | data h => cases h
      | iface _ _ v' h => exact ⟨v', rfl, h⟩
    obtain ⟨he, hk1, hk2⟩ := hside
    obtain ⟨i, d, z', h1, h2, h3, h4, _⟩ := tk_spec (P := P) (t := dst) rfl hk2
    have hd := noIface (P := P) (d := d) (by rw [h4]; exact hk1)
    refine ⟨v', ?_, hv⟩
    cases d <;> first | (exact (hd _ rfl).elim) | simp [Instr.typeAssert, run_und h2, he]
  · obtain rfl := hx.val_inv
    split at hside
    · rename_i z hz
      simp only [hz]
      obtain ⟨i, d, z', h1, h2, h3, h4, _⟩ := tk_spec (P := P) (t := dst) rfl hside.2
      have hd := noIface (P := P) (d := d) (by rw [h4]; exact hside.1)
      obtain ⟨zv, hzv, hzr⟩ := zeroAV_ok (P := P) (w := w) (c := c) hz
      refine ⟨.tuple #[zv, .bool false], ?_, tup _ _ _ hzr⟩
      cases d <;> first | (exact (hd _ rfl).elim) | simp [Instr.typeAssert, run_und h2, hzv]
    · exact hside.elim
  · exact hside.elim
theorem extract_ok {vs : List AV} {n : Nat} {u : Value} (hx : Rel c (.tuple vs) u) (hside : n < vs.length) : ∃ r, (Instr.extract u n).run P w = .ok r w ∧ Rel c (vs.getD n .top) r := by
  cases hx with
  | data h => cases h
  | tuple xs us hl hr =>
    have hlt : n < us.size := by omega
    refine ⟨us[n], by simp [Instr.extract, hlt], hr n _ _ (by simp [List.getD, hside]) (by simp [hlt])⟩
end
end Go.Abs

namespace Go.Abs
def CellsR (c : Ctx) (xs : List AV) (vs : Array Value) : Prop :=
  vs.size = xs.length ∧ ∀ (j : Nat) (x : AV) (v : Value), xs[j]? = some x → vs[j]? = some v → Rel c x v ∧ v.oneCell' = true
theorem setAll_get (off : Nat) : ∀ (l : List Value) (s : Nat) (cs : Array Value), ((l.zipIdx s).foldl (fun (cs : Array Value) (p : Value × Nat) => cs.setIfInBounds (off + p.2) p.1) cs).size = cs.size ∧
    (off + s + l.length ≤ cs.size → ∀ k, ((l.zipIdx s).foldl (fun (cs : Array Value) (p : Value × Nat) => cs.setIfInBounds (off + p.2) p.1) cs)[k]? = if off + s ≤ k ∧ k < off + s + l.length then l[k - (off + s)]? else cs[k]?)
  | [], s, cs => ⟨rfl, fun _ k => by simp; intro h1 h2; omega⟩
  | v :: l, s, cs => by
    obtain ⟨h1, h2⟩ := setAll_get off l (s + 1) (cs.setIfInBounds (off + s) v)
    refine ⟨by simpa using h1, fun hle k => ?_⟩
    simp only [List.length_cons] at hle
    have := h2 (by simp; omega) k
    simp only [List.zipIdx_cons, List.foldl_cons]
    rw [this]
    by_cases hk : k = off + s
    · subst hk
      rw [if_neg (by omega), if_pos (by simp)]
      have hlt : off + s < cs.size := by omega
      simp [Array.getElem?_setIfInBounds, hlt]
    · by_cases hk2 : off + (s + 1) ≤ k ∧ k < off + (s + 1) + l.length
      · rw [if_pos hk2, if_pos (by simp only [List.length_cons]; omega), show k - (off + s) = (k - (off + (s + 1))) + 1 from by omega]
        simp
      · rw [if_neg hk2, if_neg (by simp only [List.length_cons]; omega), Array.getElem?_setIfInBounds_ne (fun e => hk e.symm)]
theorem fillOne {c : Ctx} {xs : List AV} {cs : Array Value} (hc : CellsR c xs cs) {x : AV} {v : Value} (hr : Rel c x v) (ho : x.cellsOk = true) {off : Nat} (hle : off + x.cells.length ≤ xs.length) :
    CellsR c (xs.take off ++ x.cells ++ xs.drop (off + x.cells.length)) (v.cells.zipIdx.foldl (fun (cs : Array Value) (p : Value × Nat) => cs.setIfInBounds (off + p.2) p.1) cs) := by
  obtain ⟨hsz, hcell⟩ := hr.cells ho
  rw [← Array.foldl_toList, Array.toList_zipIdx]
  obtain ⟨h1, h2⟩ := setAll_get off v.cells.toList 0 cs
  have h2 := h2 (by simp; rw [hsz, hc.1]; exact hle)
  refine ⟨by rw [h1, hc.1]; simp; omega, fun j y u hy hu => ?_⟩
  rw [h2 j] at hu
  simp only [Nat.add_zero, Array.length_toList, hsz] at hu
  split at hu
  · rename_i hj
    rw [List.append_assoc, List.getElem?_append_right (by simp; omega), List.getElem?_append_left (by simp; omega)] at hy
    have hmin : min off xs.length = off := by omega
    simp only [List.length_take, hmin] at hy
    exact hcell _ y u hy (by simpa using hu)
  · rename_i hj
    by_cases hlt : j < off
    · rw [List.append_assoc, List.getElem?_append_left (by simp; omega), List.getElem?_take, if_pos hlt] at hy
      exact hc.2 j y u hy hu
    · rw [List.getElem?_append_right (by simp; omega), List.getElem?_drop] at hy
      simp only [List.length_append, List.length_take] at hy
      rw [show off + x.cells.length + (j - (min off xs.length + x.cells.length)) = j from by omega] at hy
      exact hc.2 j y u hy hu
theorem fill_ok {c : Ctx} {fs : List (Nat × Nat)} {place : Nat → Option (Nat × Nat)} (hp : ∀ i, i < fs.length → place i = fs[i]?) : ∀ (ps : List (Nat × AV)) (qs : List (Nat × Value)) (xs ys : List AV) (cs : Array Value),
    ps.length = qs.length → (∀ (k : Nat) (p : Nat × AV) (q : Nat × Value), ps[k]? = some p → qs[k]? = some q → p.1 = q.1 ∧ Rel c p.2 q.2) → CellsR c xs cs → fillL fs ps xs = some ys →
    ∃ cs', Instr.fill place cs qs = some cs' ∧ CellsR c ys cs'
  | [], [], xs, ys, cs, _, _, hc, h => by simp only [fillL, Option.some.injEq] at h; subst h; exact ⟨cs, rfl, hc⟩
  | [], _ :: _, _, _, _, hl, _, _, _ => by simp at hl
  | _ :: _, [], _, _, _, hl, _, _, _ => by simp at hl
  | (i, x) :: ps, (i', v) :: qs, xs, ys, cs, hl, hpq, hc, h => by
    obtain ⟨he, hr⟩ := hpq 0 (i, x) (i', v) rfl rfl
    simp only at he hr
    subst he
    simp only [fillL] at h
    split at h
    · rename_i o n hf
      split at h
      · rename_i hcond
        obtain ⟨ho, rfl, hle⟩ := hcond
        have hsz := (hr.cells ho).1
        obtain ⟨cs', h1, h2⟩ := fill_ok hp ps qs _ ys _ (by simpa using hl) (fun k p q hp hq => hpq (k + 1) p q (by simpa using hp) (by simpa using hq)) (fillOne hc hr ho hle) h
        refine ⟨cs', ?_, h2⟩
        simp only [Instr.fill, hp i (List.getElem?_eq_some_iff.1 hf).1, hf]
        have hno : (decide (v.cells.size ≠ x.cells.length) || decide (o + v.cells.size > cs.size)) = false := by
          rw [hsz, hc.1]; simp; omega
        rw [if_neg (by rw [hsz, hc.1]; simp; omega)]
        exact h1
      · cases h
    · cases h
theorem zero_rel (c : Ctx) (v : Value) : Rel c (liftC v) v := by
  exact liftC_rel c v
theorem zero_cells (c : Ctx) {z : Value} (h : ∀ v, v ∈ z.cells.toList → v.oneCell' = true) : CellsR c (z.cells.toList.map liftC) z.cells :=
  ⟨by simp, fun j x v hx hv => by
    simp only [List.getElem?_map, Option.map_eq_some_iff] at hx
    obtain ⟨u, hu, rfl⟩ := hx
    have : u = v := by simpa [hv] using hu.symm
    subst this
    exact ⟨zero_rel c u, h u (List.mem_of_getElem? hu)⟩⟩
theorem run_mapM_list {P : Program} {α β : Type} {f : α → Sem β} {g : α → β} {w : World} : ∀ (l : List α), (∀ x, x ∈ l → (f x).run P w = .ok (g x) w) → (l.mapM f).run P w = .ok (l.map g) w
  | [], _ => by simp
  | x :: l, h => by
    simp only [List.mapM_cons, Sem.run_bind, h x (by simp), Result.andThen_ok, run_mapM_list l (fun y hy => h y (by simp [hy])), Sem.run_pure, List.map_cons]
theorem run_mapM_array {P : Program} {α β : Type} {f : α → Sem β} {g : α → β} {w : World} (l : Array α) (h : ∀ x, x ∈ l.toList → (f x).run P w = .ok (g x) w) : (l.mapM f).run P w = .ok (l.map g) w := by
  rw [Array.mapM_eq_mapM_toList]
  simp only [Sem.run_map, run_mapM_list l.toList h, Result.andThen_ok]
  congr 1
  apply Array.ext'
  simp
section
variable {P : Program} {c : Ctx} {h : AHeap} {w : World}
theorem build_ok {t : TypeId} {ps : List (Nat × AV)} {qs : Array (Nat × Value)} {ys : List AV} (hl : ps.length = qs.size)
    (hpq : ∀ (k : Nat) (p : Nat × AV) (q : Nat × Value), ps[k]? = some p → qs[k]? = some q → p.1 = q.1 ∧ Rel c p.2 q.2) (hag : (tkind P t).agg = true) (hf : fillL (places P t) ps (tzero P t) = some ys) :
    ∃ r, (Instr.build t qs).run P w = .ok r w ∧ Rel c (.agg ys) r := by
  have hne : tkind P t ≠ .other := fun e => by simp [e, TK.agg] at hag
  obtain ⟨i, d, z, h1, h2, h3, h4, h5, h6, h7, h8⟩ := tk_spec (P := P) (t := t) rfl hne
  rw [h6] at hf
  have hz := zero_cells c h8
  have hzv : (zeroValue t).run P w = .ok z w := by simp [zeroValue, run_typeInfo _ h1, h3]
  have fin : ∀ (place : Nat → Option (Nat × Nat)), (∀ i, i < (places P t).length → place i = (places P t)[i]?) → ∃ cs', Instr.fill place z.cells qs.toList = some cs' ∧ CellsR c ys cs' := fun place hp =>
    fill_ok hp ps qs.toList _ ys z.cells (by simpa using hl) (fun k p q hp hq => hpq k p q hp (by simpa using hq)) hz hf
  have done : ∀ cs', CellsR c ys cs' → Rel c (.agg ys) (.agg cs') := fun cs' hcs => .agg ys cs' hcs.1 (fun j v hv => by
      have hlt : j < ys.length := by rw [← hcs.1]; exact (Array.getElem?_eq_some_iff.1 hv).1
      exact (hcs.2 j ys[j] v (by simp [hlt]) hv).2) fun j x v hx hv => (hcs.2 j x v hx hv).1
  cases hk : tkind P t with
  | struct fs =>
    rw [hk] at h4
    obtain ⟨l, rfl, hall, rfl⟩ := kind_struct h4
    have hpl : places P t = l.toList.map fun f => (f.offset, P.cellsOf f.type) := by simp [places, hk]
    obtain ⟨cs', hfill, hcs⟩ := fin (fun i => (l.map fun f => (f.offset, P.cellsOf f.type))[i]?) (fun i _ => by rw [hpl]; simp)
    refine ⟨.agg cs', ?_, done cs' hcs⟩
    have hm : (l.mapM fun f => (do pure (f.offset, ← sizeOf f.type) : Sem (Nat × Nat))).run P w = .ok (l.map fun f => (f.offset, P.cellsOf f.type)) w := run_mapM_array l fun f hf' => by
      obtain ⟨i', hi'⟩ := hall f hf'
      simp [run_sizeI hi', Program.cellsOf, hi']
    simp only [Instr.build, Sem.run_bind, hzv, run_und h2, Result.andThen_ok, hm, hfill, Sem.run_pure]
  | array n e sz =>
    rw [hk] at h4
    obtain ⟨rfl, ie, hie, rfl⟩ := kind_array h4
    have hpl : places P t = (List.range n).map fun i => (i * ie.size, ie.size) := by simp [places, hk]
    obtain ⟨cs', hfill, hcs⟩ := fin (fun i => some (i * ie.size, ie.size)) (fun i hi => by rw [hpl] at hi ⊢; simp at hi; simp [hi])
    refine ⟨.agg cs', ?_, done cs' hcs⟩
    simp only [Instr.build, Sem.run_bind, hzv, run_und h2, Result.andThen_ok, run_sizeI hie, hfill, Sem.run_pure]
  | _ => simp [hk, TK.agg] at hag
theorem fn_ok {f : Fn} {first caps : List AV} {us vs : Array Value} (h1 : us.size = first.length) (h2 : vs.size = caps.length)
    (h1' : ∀ (j : Nat) (x : AV) (v : Value), first[j]? = some x → us[j]? = some v → Rel c x v) (h2' : ∀ (j : Nat) (x : AV) (v : Value), caps[j]? = some x → vs[j]? = some v → Rel c x v) : Rel c (.fn f first caps) (.func f us vs) :=
  .fn f first caps us vs h1 h2 h1' h2'
theorem relMap {g : Operand → AV} {ev : Operand → Value} {l : Array Operand} (hg : ∀ x, x ∈ l.toList → Rel c (g x) (ev x)) :
    (l.map ev).size = (l.toList.map g).length ∧ ∀ (j : Nat) (x : AV) (v : Value), (l.toList.map g)[j]? = some x → (l.map ev)[j]? = some v → Rel c x v :=
  ⟨by simp, fun j x v hx hv => by
    simp only [List.getElem?_map, Option.map_eq_some_iff] at hx
    obtain ⟨o, ho, rfl⟩ := hx
    simp only [Array.getElem?_map, Option.map_eq_some_iff] at hv
    obtain ⟨o', ho', rfl⟩ := hv
    have : o = o' := by simpa [ho'] using ho.symm
    subst this
    exact hg o (List.mem_of_getElem? ho)⟩
end
end Go.Abs
