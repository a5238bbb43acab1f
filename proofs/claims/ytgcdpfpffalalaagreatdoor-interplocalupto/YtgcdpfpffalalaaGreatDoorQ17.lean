/- Part 17 of a proof: CwT -/
import Derived.Test.YtgcdpfpffalalaaGreatDoorQ16
set_option linter.all false

/- The laws of a whole run. No program in sight. -/
set_option linter.unusedSimpArgs false
namespace Go.Cw
open Go Go.Abs

/-- what a run is asked to be given, besides the checks that it makes itself -/
structure RunIn (fmt : Int → Bytes) (p : Proc) (args : List V) (st : List Pr) : Prop where
  fmt : ∀ n, i64 n → plainS (fmt n) = true
  body : ∀ t ∈ p.body, rngS t
  args : ∀ v ∈ args, rngV v
  st : ∀ q ∈ st, rngV q.v
abbrev cfgR (fmt : Int → Bytes) (st : List Pr) (ft : Foot) : Cfg := ⟨st, ft.all, ft.reads, ft.writes, fmt⟩
abbrev ms0 (p : Proc) (args : List V) : MS := ⟨setArgs p.params args [], [], [], [], [], 0⟩
/-- the checks of a run -/
def runOk (p : Proc) (args : List V) (st : List Pr) (ft : Foot) : Prop := ¬ (costErr p ≠ 0 ∨ argsErr p args ≠ 0 ∨ stateOk st = false ∨ footOk ft.all ft.reads ft.writes = false)
theorem runS_no {fmt : Int → Bytes} {p : Proc} {args : List V} {st : List Pr} {ft : Foot} (h : ¬ runOk p args st ft) : runS fmt p args st ft = wrongE := by
  unfold runS
  exact if_pos (Decidable.not_not.1 h)
theorem runS_yes {fmt : Int → Bytes} {p : Proc} {args : List V} {st : List Pr} {ft : Foot} (h : runOk p args st ft) : runS fmt p args st ft = doneS (blkI (cfgR fmt st ft) p.body (ms0 p args)) := by
  unfold runS
  exact if_neg h
theorem runOk_iff (p : Proc) (args : List V) (st : List Pr) (ft : Foot) : runOk p args st ft ↔ costErr p = 0 ∧ argsErr p args = 0 ∧ stateOk st = true ∧ footOk ft.all ft.reads ft.writes = true := by
  unfold runOk
  simp only [not_or, Decidable.not_not, Bool.not_eq_false]
theorem setArgs_mem : ∀ {ps : List Param} {vs : List V} {m : List (Bytes × V)} {q : Bytes × V}, q ∈ setArgs ps vs m → q ∈ m ∨ q.2 ∈ vs
  | [], vs, m, q, h => by simp [setArgs] at h; exact .inl h
  | x :: l, [], m, q, h => by simp [setArgs] at h; exact .inl h
  | x :: l, v :: r, m, q, h => by
    rw [setArgs] at h
    rcases setArgs_mem h with h | h
    · rcases kSet_mem h with rfl | h
      · exact .inr (by simp)
      · exact .inl h
    · exact .inr (by simp [h])
theorem done_reads (x : Except Stop Unit × MS) : (doneS x).reads = x.2.reads := by rcases x with ⟨z | u, m⟩ <;> rfl
theorem done_puts (x : Except Stop Unit × MS) : (doneS x).puts = x.2.puts := by rcases x with ⟨z | u, m⟩ <;> rfl
theorem done_steps (x : Except Stop Unit × MS) : (doneS x).steps = x.2.steps := by rcases x with ⟨z | u, m⟩ <;> rfl

/-! ### what follows from the checks -/
theorem cost_valid {p : Proc} (h : costErr p = 0) : validP p = 0 := by
  unfold costErr at h
  split at h
  · contradiction
  · rename_i hd
    simp only [Decidable.not_not] at hd
    unfold detErr at hd
    split at hd
    · contradiction
    · rename_i ht
      simp only [Decidable.not_not] at ht
      unfold typeErr at ht
      split at ht
      · contradiction
      · rename_i hv
        simpa using hv
theorem cost_okL {p : Proc} (h : costErr p = 0) : okL p.body 1 := validP_ok (cost_valid h)
theorem cost_goS {p : Proc} (h : costErr p = 0) (hr : ∀ t ∈ p.body, rngS t) : ∀ t ∈ p.body, goS t := fun t ht => goS_of t 1 (cost_okL h t ht) (hr t ht)
theorem cost_lim {p : Proc} (h : costErr p = 0) : (cntB p.body).st ≤ 16384 ∧ (cntB p.body).ge ≤ 64 ∧ (cntB p.body).pu ≤ 64 ∧ (cntB p.body).em ≤ 16 := by
  unfold costErr at h
  split at h
  · contradiction
  split at h
  · contradiction
  split at h
  · contradiction
  · omega
theorem cost_det {p : Proc} (h : costErr p = 0) : detErr p = 0 := by
  unfold costErr at h
  split at h
  · contradiction
  · rename_i hd
    simpa using hd
theorem cost_nL {p : Proc} (h : costErr p = 0) : ((nL p.body).st : Int) = (cntB p.body).st ∧ ((nL p.body).ge : Int) = (cntB p.body).ge ∧ ((nL p.body).pu : Int) = (cntB p.body).pu ∧ ((nL p.body).em : Int) = (cntB p.body).em := by
  have h1 := cost_lim h
  have h2 := cntB_sat (cost_okL h)
  have hm : ∀ n : Nat, mn n 16385 ≤ 16384 → (n : Int) = mn n 16385 := fun n hn => by unfold mn at hn ⊢; split <;> split at hn <;> omega
  rw [h2] at h1 ⊢
  simp only [sat] at h1 ⊢
  exact ⟨hm _ h1.1, hm _ (by omega), hm _ (by omega), hm _ (by omega)⟩
theorem args_ok {ps : List Param} {vs : List V} (h : argsOk ps vs = true) (hl : vs.length = ps.length) : ∀ v ∈ vs, okX v := by
  induction ps generalizing vs with
  | nil => intro v hv; rw [List.eq_nil_of_length_eq_zero hl] at hv; cases hv
  | cons x l ih =>
    cases vs with
    | nil => simp
    | cons v r =>
      simp only [argsOk, Bool.and_eq_true] at h
      intro w hw
      rcases List.mem_cons.1 hw with rfl | hw
      · have := h.1
        unfold argOk at this
        unfold okX varOk valOk
        simp only [Bool.or_eq_true, Bool.and_eq_true, decide_eq_true_eq] at this
        rcases this with ⟨⟨h1, h2⟩, _⟩ | ⟨⟨⟨h1, h2⟩, h3⟩, _⟩
        · simp [h1, h2]
        · simp [h1, h2, h3]
      · exact ih h.2 (by simpa using hl) w hw
theorem argsErr_ok {p : Proc} {args : List V} (h : argsErr p args = 0) : args.length = p.params.length ∧ ∀ v ∈ args, okX v := by
  unfold argsErr at h
  split at h
  · contradiction
  · rename_i h1
    split at h
    · rename_i h2
      have hl : args.length = p.params.length := by
        by_cases hl : args.length = p.params.length
        · exact hl
        · exact (h1 (.inr hl)).elim
      exact ⟨hl, args_ok h2 hl⟩
    · contradiction
section
variable {fmt : Int → Bytes} {p : Proc} {args : List V} {st : List Pr} {ft : Foot}
theorem inv0 (hI : RunIn fmt p args st) : Inv 0 0 (ms0 p args) := by
  refine ⟨⟨fun q hq => ?_, by simp⟩, by simp, by simp, by simp, by simp, by simp, by simp⟩
  rcases setArgs_mem hq with h | h
  · cases h
  · exact hI.args _ h
theorem vM0 (h : argsErr p args = 0) : vM (ms0 p args) := by
  refine ⟨fun q hq => ?_, by simp⟩
  rcases setArgs_mem hq with h1 | h1
  · cases h1
  · exact (argsErr_ok h).2 _ h1
theorem vC_of (hI : RunIn fmt p args st) (hs : stateOk st = true) : vC (cfgR fmt st ft) := ⟨fun q hq => (((stateOk_iff st).1 hs).1 q hq).1, hI.fmt⟩
theorem fit_run (x : List St) : Fit (cfgR fmt st ft) (ms0 p args) (blkI (cfgR fmt st ft) x (ms0 p args)).2 := keep_blk (fit_keeps _) x _

/-! ### the stage's theorem -/
theorem run_local {b : List Pr} (ha : stateOk st = true) (hb : stateOk b = true) :
    writesOk ((runS fmt p args st ft).reads.map fun k => (⟨k, getP st k⟩ : Pr)) = true ∧
    runS fmt p args (applyP b ((runS fmt p args st ft).reads.map fun k => (⟨k, getP st k⟩ : Pr))) ft = runS fmt p args st ft := by
  obtain ⟨a1, a2, a3⟩ := (stateOk_iff st).1 ha
  by_cases h : runOk p args st ft
  · have hr := (runOk_iff _ _ _ _).1 h
    rw [runS_yes h, done_reads]
    have hf := fit_run (fmt := fmt) (p := p) (args := args) (st := st) (ft := ft) p.body
    obtain ⟨R, hR⟩ : ∃ R, R = (blkI (cfgR fmt st ft) p.body (ms0 p args)).2.reads := ⟨_, rfl⟩
    rw [← hR]
    have hk : ∀ k ∈ R, keyOk k = true := fun k hk => by
      rw [hR] at hk
      rcases hf.rd k hk with h | h
      · cases h
      · exact h.1
    have hasc : ascS R := by rw [hR]; exact hf.ar (by simp)
    have hkeys : keysP (R.map fun k => (⟨k, getP st k⟩ : Pr)) = R := by simp [keysP, Function.comp_def]
    have hw : writesOk (R.map fun k => (⟨k, getP st k⟩ : Pr)) = true := by
      refine (writesOk_iff _).2 ⟨fun q hq => ?_, fun q hq => ?_, by rw [hkeys]; exact hasc⟩
      · obtain ⟨k, _, rfl⟩ := List.mem_map.1 hq
        exact okW_getP (fun q hq => (a1 q hq).1) k
      · obtain ⟨k, hk', rfl⟩ := List.mem_map.1 hq
        exact hk k hk'
    refine ⟨hw, ?_⟩
    have hs := applyP_ok hb hw
    have h' : runOk p args (applyP b (R.map fun k => (⟨k, getP st k⟩ : Pr))) ft := (runOk_iff _ _ _ _).2 ⟨hr.1, hr.2.1, hs, hr.2.2.2⟩
    rw [runS_yes h']
    have := two_blk (alike_local (cfgR fmt st ft) (applyP b (R.map fun k => (⟨k, getP st k⟩ : Pr)))) p.body (ms0 p args) (fun k hk' => by
      rw [← hR] at hk'
      obtain ⟨w1, w2, w3⟩ := (writesOk_iff _).1 hw
      rw [getP_apply ((stateOk_iff b).1 hb).2.2 w3 w1, if_pos (hasP_iff.2 (by rw [hkeys]; exact hk'))]
      have hm : (⟨k, getP st k⟩ : Pr) ∈ R.map fun k => (⟨k, getP st k⟩ : Pr) := List.mem_map.2 ⟨k, hk', rfl⟩
      exact (getP_in w3 hm).symm)
    exact congrArg doneS this
  · have e : runS fmt p args st ft = wrongE := runS_no h
    rw [e]
    refine ⟨rfl, ?_⟩
    refine runS_no fun h' => h ?_
    have := (runOk_iff _ _ _ _).1 h'
    exact (runOk_iff _ _ _ _).2 ⟨this.1, this.2.1, ha, this.2.2.2⟩
theorem run_code (ha : stateOk st = false) : (runS fmt p args st ft).code = 1009 := by
  rw [runS_no]
  · rfl
  · intro h
    have := ((runOk_iff _ _ _ _).1 h).2.2.1
    rw [ha] at this
    cases this

/-! ### footprints -/
theorem keyOk_ne {k : Bytes} (h : keyOk k = true) : k ≠ em := by
  rintro rfl
  simp [keyOk] at h
theorem stop_run {x : List St} {t : MS} {z : Stop} (h : blkI (cfgR fmt st ft) x (ms0 p args) = (.error z, t)) : Stops (cfgR fmt st ft) z := stop_blk x _ _ _ h
theorem run_all (h : ft.all = true) : (runS fmt p args st ft).status ≠ 3 := by
  by_cases hr : runOk p args st ft
  · rw [runS_yes hr]
    rcases hx : blkI (cfgR fmt st ft) p.body (ms0 p args) with ⟨z | u, m⟩
    · rcases stop_run hx with ⟨c, rfl⟩ | ⟨k, rfl, ha, _⟩
      · simp [doneS, ab]
      · simp only [h] at ha; cases ha
    · simp [doneS]
  · rw [runS_no hr]; decide
theorem run_reads {k : Bytes} (hk : k ∈ (runS fmt p args st ft).reads) : stateOk st = true ∧ keyOk k = true ∧ (ft.all = true ∨ hasK ft.reads k = true) := by
  by_cases hr : runOk p args st ft
  · rw [runS_yes hr, done_reads] at hk
    rcases (fit_run p.body).rd k hk with h | h
    · cases h
    · exact ⟨((runOk_iff _ _ _ _).1 hr).2.2.1, h.1, h.2⟩
  · rw [runS_no hr] at hk; cases hk
theorem run_puts {k : Bytes} (hk : k ∈ (runS fmt p args st ft).puts) : keyOk k = true ∧ (ft.all = true ∨ hasK ft.writes k = true) := by
  by_cases hr : runOk p args st ft
  · rw [runS_yes hr, done_puts] at hk
    rcases (fit_run p.body).pt k hk with h | h
    · cases h
    · exact h
  · rw [runS_no hr] at hk; cases hk
theorem run_asc : ascS (runS fmt p args st ft).reads ∧ ascS (runS fmt p args st ft).puts := by
  by_cases hr : runOk p args st ft
  · rw [runS_yes hr, done_reads, done_puts]
    exact ⟨(fit_run p.body).ar (by simp), (fit_run p.body).ap (by simp)⟩
  · rw [runS_no hr]; simp [wrongE]
theorem run_restart (h : (runS fmt p args st ft).status = 3) : (runS fmt p args st ft).miss ≠ em ∧ ¬ (hasK ft.reads (runS fmt p args st ft).miss = true ∧ hasK ft.writes (runS fmt p args st ft).miss = true) ∧ (runS fmt p args st ft).code = 0 := by
  by_cases hr : runOk p args st ft
  · rw [runS_yes hr] at h ⊢
    rcases hx : blkI (cfgR fmt st ft) p.body (ms0 p args) with ⟨z | u, m⟩
    · rw [hx] at h
      rcases stop_run hx with ⟨c, rfl⟩ | ⟨k, rfl, ha, hk, hn⟩
      · simp [doneS, ab] at h
      · refine ⟨keyOk_ne hk, ?_, rfl⟩
        rintro ⟨h1, h2⟩
        simp only [doneS, rst] at h1 h2
        rcases hn with hn | hn
        · rw [h1] at hn; cases hn
        · rw [h2] at hn; cases hn
    · rw [hx] at h; simp [doneS] at h
  · rw [runS_no hr] at h; simp [wrongE] at h
theorem footOk_all : footOk true [] [] = true := by decide
theorem run_miss (h : (runS fmt p args st ft).status ≠ 3) : (runS fmt p args st ft).miss = em := by
  by_cases hr : runOk p args st ft
  · rw [runS_yes hr] at h ⊢
    rcases hx : blkI (cfgR fmt st ft) p.body (ms0 p args) with ⟨z | u, m⟩
    · rw [hx] at h
      rcases stop_run hx with ⟨c, rfl⟩ | ⟨k, rfl, ha, hk, hn⟩
      · rfl
      · exact (h rfl).elim
    · rfl
  · rw [runS_no hr]; rfl
theorem run_free (hf : footOk ft.all ft.reads ft.writes = true) (h : (runS fmt p args st ft).status ≠ 3) : runS fmt p args st ⟨true, [], []⟩ = runS fmt p args st ft := by
  by_cases hr : runOk p args st ft
  · have hr' := (runOk_iff _ _ _ _).1 hr
    have hr2 : runOk p args st ⟨true, [], []⟩ := (runOk_iff _ _ _ _).2 ⟨hr'.1, hr'.2.1, hr'.2.2.1, footOk_all⟩
    rw [runS_yes hr] at h
    rw [runS_yes hr, runS_yes hr2]
    have := two_blk (alike_free (cfgR fmt st ft) [] []) p.body (ms0 p args) (fun z hz => by
      rcases hx : blkI (cfgR fmt st ft) p.body (ms0 p args) with ⟨z' | u, m⟩
      · rw [hx] at hz h
        simp only [er, Option.some.injEq] at hz
        subst hz
        exact h
      · rw [hx] at hz; cases hz)
    exact congrArg doneS this
  · rw [runS_no hr]
    refine runS_no fun h' => hr ?_
    have := (runOk_iff _ _ _ _).1 h'
    exact (runOk_iff _ _ _ _).2 ⟨this.1, this.2.1, this.2.2.1, hf⟩

/-! ### bounds -/
theorem run_wrong (h : costErr p ≠ 0) : runS fmt p args st ft = wrongE := runS_no fun h' => h ((runOk_iff _ _ _ _).1 h').1
theorem nL_nonneg (h : costErr p = 0) : 0 ≤ (cntB p.body).st ∧ 0 ≤ (cntB p.body).ge ∧ 0 ≤ (cntB p.body).pu ∧ 0 ≤ (cntB p.body).em := by
  have := cost_nL h
  omega
theorem run_bounds (hI : RunIn fmt p args st) (h : costErr p = 0) : (runS fmt p args st ft).steps ≤ (cntB p.body).st ∧ ((runS fmt p args st ft).reads.length : Int) ≤ (cntB p.body).ge ∧ ((runS fmt p args st ft).puts.length : Int) ≤ (cntB p.body).pu ∧ ((runS fmt p args st ft).out.length : Int) ≤ (cntB p.body).em := by
  have hn := cost_nL h
  by_cases hr : runOk p args st ft
  · rw [runS_yes hr, done_reads, done_puts, done_steps]
    have hd := dl_blk (C := cfgR fmt st ft) (fun q hq => hI.st q hq) p.body 1 (ms0 p args) (cost_okL h) (cost_goS h hI.body) (inv0 hI)
    obtain ⟨d1, d2, d3, d4⟩ := hd
    simp only [List.length_nil, Nat.zero_add] at d1 d2 d3 d4
    refine ⟨by omega, by omega, by omega, ?_⟩
    rcases hx : blkI (cfgR fmt st ft) p.body (ms0 p args) with ⟨z | u, m⟩
    · simp only [doneS, List.length_nil]; omega
    · rw [hx] at d4; simp only at d4; simp only [doneS]; omega
  · rw [runS_no hr]
    simp only [wrongE, List.length_nil]
    omega
theorem run_else (h : (runS fmt p args st ft).status ≠ 1) : (runS fmt p args st ft).writes = [] ∧ (runS fmt p args st ft).out = [] ∧ ((runS fmt p args st ft).status = 2 ∨ (runS fmt p args st ft).status = 3 ∧ (runS fmt p args st ft).code = 0) := by
  by_cases hr : runOk p args st ft
  · rw [runS_yes hr] at h ⊢
    rcases hx : blkI (cfgR fmt st ft) p.body (ms0 p args) with ⟨z | u, m⟩
    · refine ⟨rfl, rfl, ?_⟩
      rcases stop_run hx with ⟨c, rfl⟩ | ⟨k, rfl, _⟩
      · exact .inl rfl
      · exact .inr ⟨rfl, rfl⟩
    · rw [hx] at h; exact (h rfl).elim
  · rw [runS_no hr]; exact ⟨rfl, rfl, .inl rfl⟩
theorem run_commit (hI : RunIn fmt p args st) (h : (runS fmt p args st ft).status = 1) : (runS fmt p args st ft).writes.map (·.key) = (runS fmt p args st ft).puts ∧ (runS fmt p args st ft).code = 0 ∧ writesOk (runS fmt p args st ft).writes = true := by
  by_cases hr : runOk p args st ft
  · have hr' := (runOk_iff _ _ _ _).1 hr
    have hasc := (run_asc (fmt := fmt) (p := p) (args := args) (st := st) (ft := ft)).2
    have hput := fun k hk => (run_puts (fmt := fmt) (p := p) (args := args) (st := st) (ft := ft) (k := k) hk).1
    rw [runS_yes hr] at h hasc hput ⊢
    rcases hx : blkI (cfgR fmt st ft) p.body (ms0 p args) with ⟨z | u, m⟩
    · rw [hx] at h
      rcases stop_run hx with ⟨c, rfl⟩ | ⟨k, rfl, _⟩ <;> simp [doneS, ab, rst] at h
    · rw [hx] at hasc hput
      have hvm := vM_blk (vC_of hI hr'.2.2.1) (fun q hq => hI.st q hq) p.body 1 (ms0 p args) u m (cost_okL hr'.1) (cost_goS hr'.1 hI.body) (inv0 hI) (vM0 hr'.2.1) hx
      have hkeys : (doneS (.ok u, m)).writes.map (·.key) = (doneS (.ok u, m)).puts := by simp [doneS, Function.comp_def]
      refine ⟨hkeys, rfl, (writesOk_iff _).2 ⟨fun q hq => ?_, fun q hq => ?_, ?_⟩⟩
      · obtain ⟨k, _, rfl⟩ := List.mem_map.1 hq
        simp only
        rcases hg : kGet m.own k with _ | w
        · exact okW_nil
        · exact hvm.2 _ (kGet_mem hg)
      · exact hput _ (by rw [← hkeys]; exact List.mem_map_of_mem hq)
      · show ascS ((doneS (.ok u, m)).writes.map (·.key))
        rw [hkeys]; exact hasc
  · rw [runS_no hr] at h; simp [wrongE] at h
end
end Go.Cw
