/- Part 16 of a proof: CwT, CwU, CwV, CwX, CwY, CwI, CwW, CwMv, CwMw -/
import Derived.Test.YtcmbmfmpelnimaaGreatDoorQ11
import Derived.Test.YtcmbmfmpelnimaaGreatDoorQ14
import Derived.Test.YtcmbmfmpelnimaaGreatDoorQ15
set_option linter.all false

namespace Go.Cw
open Go Go.Abs
structure RunIn (fmt : Int → Bytes) (p : Proc) (args : List V) (st : List Pr) : Prop where
  fmt : ∀ n, i64 n → plainS (fmt n) = true
  body : ∀ t ∈ p.body, rngS t
  args : ∀ v ∈ args, rngV v
  st : ∀ q ∈ st, rngV q.v
abbrev cfgR (fmt : Int → Bytes) (st : List Pr) (ft : Foot) : Cfg := ⟨st, ft.all, ft.reads, ft.writes, fmt⟩
abbrev ms0 (p : Proc) (args : List V) : MS := ⟨setArgs p.params args [], [], [], [], [], 0⟩
def runOk (p : Proc) (args : List V) (st : List Pr) (ft : Foot) : Prop := ¬ (costErr p ≠ 0 ∨ argsErr p args ≠ 0 ∨ stateOk st = false ∨ footOk ft.all ft.reads ft.writes = false)
theorem runS_no {fmt : Int → Bytes} {p : Proc} {args : List V} {st : List Pr} {ft : Foot} (h : ¬ runOk p args st ft) : runS fmt p args st ft = wrongE := by
  unfold runS
  exact if_pos (Decidable.not_not.1 h)
theorem runS_yes {fmt : Int → Bytes} {p : Proc} {args : List V} {st : List Pr} {ft : Foot} (h : runOk p args st ft) : runS fmt p args st ft = doneS (blkI (cfgR fmt st ft) p.body (ms0 p args)) := by
  unfold runS
  exact if_neg h
theorem runOk_iff (p : Proc) (args : List V) (st : List Pr) (ft : Foot) : runOk p args st ft ↔ costErr p = 0 ∧ argsErr p args = 0 ∧ stateOk st = true ∧ footOk ft.all ft.reads ft.writes = true := by
  unfold runOk
  simp only [not_or, Decidable.not_not, Bool.not_eq_false]
theorem setArgs_mem : ∀ {ps : List Param} {vs : List V} {m : List (Bytes × V)} {q : Bytes × V}, q ∈ setArgs ps vs m → q ∈ m ∨ q.2 ∈ vs
  | [], vs, m, q, h => by simp [setArgs] at h; exact .inl h
  | x :: l, [], m, q, h => by simp [setArgs] at h; exact .inl h
  | x :: l, v :: r, m, q, h => by
    rw [setArgs] at h
    rcases setArgs_mem h with h | h
    · rcases kSet_mem h with rfl | h
      · exact .inr (by simp)
      · exact .inl h
    · exact .inr (by simp [h])
theorem done_reads (x : Except Stop Unit × MS) : (doneS x).reads = x.2.reads := by rcases x with ⟨z | u, m⟩ <;> rfl
theorem done_puts (x : Except Stop Unit × MS) : (doneS x).puts = x.2.puts := by rcases x with ⟨z | u, m⟩ <;> rfl
theorem done_steps (x : Except Stop Unit × MS) : (doneS x).steps = x.2.steps := by rcases x with ⟨z | u, m⟩ <;> rfl
theorem cost_valid {p : Proc} (h : costErr p = 0) : validP p = 0 := by
  unfold costErr at h
  split at h
  · contradiction
  · rename_i hd
    simp only [Decidable.not_not] at hd
    unfold detErr at hd
    split at hd
    · contradiction
    · rename_i ht
      simp only [Decidable.not_not] at ht
      unfold typeErr at ht
      split at ht
      · contradiction
      · rename_i hv
        simpa using hv
theorem cost_okL {p : Proc} (h : costErr p = 0) : okL p.body 1 := validP_ok (cost_valid h)
theorem cost_goS {p : Proc} (h : costErr p = 0) (hr : ∀ t ∈ p.body, rngS t) : ∀ t ∈ p.body, goS t := fun t ht => goS_of t 1 (cost_okL h t ht) (hr t ht)
theorem cost_lim {p : Proc} (h : costErr p = 0) : (cntB p.body).st ≤ 16384 ∧ (cntB p.body).ge ≤ 64 ∧ (cntB p.body).pu ≤ 64 ∧ (cntB p.body).em ≤ 16 := by
  unfold costErr at h
  split at h
  · contradiction
  split at h
  · contradiction
  split at h
  · contradiction
  · omega
theorem cost_nL {p : Proc} (h : costErr p = 0) : ((nL p.body).st : Int) = (cntB p.body).st ∧ ((nL p.body).ge : Int) = (cntB p.body).ge ∧ ((nL p.body).pu : Int) = (cntB p.body).pu ∧ ((nL p.body).em : Int) = (cntB p.body).em := by
  have h1 := cost_lim h
  have h2 := cntB_sat (cost_okL h)
  have hm : ∀ n : Nat, mn n 16385 ≤ 16384 → (n : Int) = mn n 16385 := fun n hn => by unfold mn at hn ⊢; split <;> split at hn <;> omega
  rw [h2] at h1 ⊢
  simp only [sat] at h1 ⊢
  exact ⟨hm _ h1.1, hm _ (by omega), hm _ (by omega), hm _ (by omega)⟩
theorem args_ok {ps : List Param} {vs : List V} (h : argsOk ps vs = true) (hl : vs.length = ps.length) : ∀ v ∈ vs, okX v := by
  induction ps generalizing vs with
  | nil => intro v hv; rw [List.eq_nil_of_length_eq_zero hl] at hv; cases hv
  | cons x l ih =>
    cases vs with
    | nil => simp
    | cons v r =>
      simp only [argsOk, Bool.and_eq_true] at h
      intro w hw
      rcases List.mem_cons.1 hw with rfl | hw
      · have := h.1
        unfold argOk at this
        unfold okX varOk valOk
        simp only [Bool.or_eq_true, Bool.and_eq_true, decide_eq_true_eq] at this
        rcases this with ⟨⟨h1, h2⟩, _⟩ | ⟨⟨⟨h1, h2⟩, h3⟩, _⟩
        · simp [h1, h2]
        · simp [h1, h2, h3]
      · exact ih h.2 (by simpa using hl) w hw
theorem argsErr_ok {p : Proc} {args : List V} (h : argsErr p args = 0) : args.length = p.params.length ∧ ∀ v ∈ args, okX v := by
  unfold argsErr at h
  split at h
  · contradiction
  · rename_i h1
    split at h
    · rename_i h2
      have hl : args.length = p.params.length := by
        by_cases hl : args.length = p.params.length
        · exact hl
        · exact (h1 (.inr hl)).elim
      exact ⟨hl, args_ok h2 hl⟩
    · contradiction
section
variable {fmt : Int → Bytes} {p : Proc} {args : List V} {st : List Pr} {ft : Foot}
theorem inv0 (hI : RunIn fmt p args st) : Inv 0 0 (ms0 p args) := by
  refine ⟨⟨fun q hq => ?_, by simp⟩, by simp, by simp, by simp, by simp, by simp, by simp⟩
  rcases setArgs_mem hq with h | h
  · cases h
  · exact hI.args _ h
theorem vM0 (h : argsErr p args = 0) : vM (ms0 p args) := by
  refine ⟨fun q hq => ?_, by simp⟩
  rcases setArgs_mem hq with h1 | h1
  · cases h1
  · exact (argsErr_ok h).2 _ h1
theorem vC_of (hI : RunIn fmt p args st) (hs : stateOk st = true) : vC (cfgR fmt st ft) := ⟨fun q hq => (((stateOk_iff st).1 hs).1 q hq).1, hI.fmt⟩
theorem fit_run (x : List St) : Fit (cfgR fmt st ft) (ms0 p args) (blkI (cfgR fmt st ft) x (ms0 p args)).2 := keep_blk (fit_keeps _) x _
theorem stop_run {x : List St} {t : MS} {z : Stop} (h : blkI (cfgR fmt st ft) x (ms0 p args) = (.error z, t)) : Stops (cfgR fmt st ft) z := stop_blk x _ _ _ h
theorem run_reads {k : Bytes} (hk : k ∈ (runS fmt p args st ft).reads) : stateOk st = true ∧ keyOk k = true ∧ (ft.all = true ∨ hasK ft.reads k = true) := by
  by_cases hr : runOk p args st ft
  · rw [runS_yes hr, done_reads] at hk
    rcases (fit_run p.body).rd k hk with h | h
    · cases h
    · exact ⟨((runOk_iff _ _ _ _).1 hr).2.2.1, h.1, h.2⟩
  · rw [runS_no hr] at hk; cases hk
theorem run_puts {k : Bytes} (hk : k ∈ (runS fmt p args st ft).puts) : keyOk k = true ∧ (ft.all = true ∨ hasK ft.writes k = true) := by
  by_cases hr : runOk p args st ft
  · rw [runS_yes hr, done_puts] at hk
    rcases (fit_run p.body).pt k hk with h | h
    · cases h
    · exact h
  · rw [runS_no hr] at hk; cases hk
theorem run_asc : ascS (runS fmt p args st ft).reads ∧ ascS (runS fmt p args st ft).puts := by
  by_cases hr : runOk p args st ft
  · rw [runS_yes hr, done_reads, done_puts]
    exact ⟨(fit_run p.body).ar (by simp), (fit_run p.body).ap (by simp)⟩
  · rw [runS_no hr]; simp [wrongE]
theorem run_wrong (h : costErr p ≠ 0) : runS fmt p args st ft = wrongE := runS_no fun h' => h ((runOk_iff _ _ _ _).1 h').1
theorem run_bounds (hI : RunIn fmt p args st) (h : costErr p = 0) : (runS fmt p args st ft).steps ≤ (cntB p.body).st ∧ ((runS fmt p args st ft).reads.length : Int) ≤ (cntB p.body).ge ∧ ((runS fmt p args st ft).puts.length : Int) ≤ (cntB p.body).pu ∧ ((runS fmt p args st ft).out.length : Int) ≤ (cntB p.body).em := by
  have hn := cost_nL h
  by_cases hr : runOk p args st ft
  · rw [runS_yes hr, done_reads, done_puts, done_steps]
    have hd := dl_blk (C := cfgR fmt st ft) (fun q hq => hI.st q hq) p.body 1 (ms0 p args) (cost_okL h) (cost_goS h hI.body) (inv0 hI)
    obtain ⟨d1, d2, d3, d4⟩ := hd
    simp only [List.length_nil, Nat.zero_add] at d1 d2 d3 d4
    refine ⟨by omega, by omega, by omega, ?_⟩
    rcases hx : blkI (cfgR fmt st ft) p.body (ms0 p args) with ⟨z | u, m⟩
    · simp only [doneS, List.length_nil]; omega
    · rw [hx] at d4; simp only at d4; simp only [doneS]; omega
  · rw [runS_no hr]
    simp only [wrongE, List.length_nil]
    omega
theorem run_else (h : (runS fmt p args st ft).status ≠ 1) : (runS fmt p args st ft).writes = [] ∧ (runS fmt p args st ft).out = [] ∧ ((runS fmt p args st ft).status = 2 ∨ (runS fmt p args st ft).status = 3 ∧ (runS fmt p args st ft).code = 0) := by
  by_cases hr : runOk p args st ft
  · rw [runS_yes hr] at h ⊢
    rcases hx : blkI (cfgR fmt st ft) p.body (ms0 p args) with ⟨z | u, m⟩
    · refine ⟨rfl, rfl, ?_⟩
      rcases stop_run hx with ⟨c, rfl⟩ | ⟨k, rfl, _⟩
      · exact .inl rfl
      · exact .inr ⟨rfl, rfl⟩
    · rw [hx] at h; exact (h rfl).elim
  · rw [runS_no hr]; exact ⟨rfl, rfl, .inl rfl⟩
theorem run_commit (hI : RunIn fmt p args st) (h : (runS fmt p args st ft).status = 1) : (runS fmt p args st ft).writes.map (·.key) = (runS fmt p args st ft).puts ∧ (runS fmt p args st ft).code = 0 ∧ writesOk (runS fmt p args st ft).writes = true := by
  by_cases hr : runOk p args st ft
  · have hr' := (runOk_iff _ _ _ _).1 hr
    have hasc := (run_asc (fmt := fmt) (p := p) (args := args) (st := st) (ft := ft)).2
    have hput := fun k hk => (run_puts (fmt := fmt) (p := p) (args := args) (st := st) (ft := ft) (k := k) hk).1
    rw [runS_yes hr] at h hasc hput ⊢
    rcases hx : blkI (cfgR fmt st ft) p.body (ms0 p args) with ⟨z | u, m⟩
    · rw [hx] at h
      rcases stop_run hx with ⟨c, rfl⟩ | ⟨k, rfl, _⟩ <;> simp [doneS, ab, rst] at h
    · rw [hx] at hasc hput
      have hvm := vM_blk (vC_of hI hr'.2.2.1) (fun q hq => hI.st q hq) p.body 1 (ms0 p args) u m (cost_okL hr'.1) (cost_goS hr'.1 hI.body) (inv0 hI) (vM0 hr'.2.1) hx
      have hkeys : (doneS (.ok u, m)).writes.map (·.key) = (doneS (.ok u, m)).puts := by simp [doneS, Function.comp_def]
      refine ⟨hkeys, rfl, (writesOk_iff _).2 ⟨fun q hq => ?_, fun q hq => ?_, ?_⟩⟩
      · obtain ⟨k, _, rfl⟩ := List.mem_map.1 hq
        simp only
        rcases hg : kGet m.own k with _ | w
        · exact okW_nil
        · exact hvm.2 _ (kGet_mem hg)
      · exact hput _ (by rw [← hkeys]; exact List.mem_map_of_mem hq)
      · show ascS ((doneS (.ok u, m)).writes.map (·.key))
        rw [hkeys]; exact hasc
  · rw [runS_no hr] at h; simp [wrongE] at h
end
end Go.Cw

namespace Go.Cw
open Go Go.Abs
structure Txn where
  id : Int
  proc : Bytes
  args : List V
  ft : Foot
  att : Int
def Txn.c (t : Txn) : List AV := [I t.id, S t.proc, .slice (t.args.map V.c), Bo t.ft.all, .slice (t.ft.reads.map sRow), .slice (t.ft.writes.map sRow), I t.att]
def findN (procs : List Proc) (name : Bytes) : Option Proc := procs.find? fun p => decide (p.name = name)
def findP (procs : List Proc) (t : Txn) : Option Proc :=
  match findN procs t.proc with
  | none => none
  | some p => if argsErr p t.args = 0 then some p else none
section
variable (fmt : Int → Bytes)
def oneS (procs : List Proc) (s : List Pr) (t : Txn) : List Pr × Eff :=
  match findP procs t with
  | none => (s, wrongE)
  | some p => if (runS fmt p t.args s t.ft).status = 1 then (applyP s (runS fmt p t.args s t.ft).writes, runS fmt p t.args s t.ft) else (s, runS fmt p t.args s t.ft)
def roundS (procs : List Proc) (s : List Pr) (l : List Txn) : List Pr × List Eff :=
  l.foldl (fun y t => ((oneS fmt procs y.1 t).1, y.2 ++ [(oneS fmt procs y.1 t).2])) (s, [])
def specS (procs : List Proc) (s : List Pr) (l : List Txn) : List Eff := l.map fun t => (oneS fmt procs s t).2
end
def wroteS (e : Eff) (k : Bytes) : Bool := decide (e.status = 1) && hasP e.writes k
def validO (e : Eff) (earlier : List Eff) : Bool := !(e.reads.any fun k => earlier.any fun x => wroteS x k)
def applyE (s : List Pr) (e : Eff) : List Pr := if e.status = 1 ∧ stateOk s = true ∧ writesOk e.writes = true then applyP s e.writes else s
section
variable (fmt : Int → Bytes)
def occStep (procs : List Proc) (first : List Pr) (x : List Pr × List Eff × List Bool) (t : Txn) : List Pr × List Eff × List Bool :=
  if validO (oneS fmt procs first t).2 x.2.1 = true then (applyE x.1 (oneS fmt procs first t).2, x.2.1 ++ [(oneS fmt procs first t).2], x.2.2 ++ [false])
  else (applyE x.1 (oneS fmt procs x.1 t).2, x.2.1 ++ [(oneS fmt procs x.1 t).2], x.2.2 ++ [true])
def occS (procs : List Proc) (first : List Pr) (l : List Txn) : List Pr × List Eff × List Bool := l.foldl (occStep fmt procs first) (first, [], [])
end
structure BatchIn (fmt : Int → Bytes) (procs : List Proc) (l : List Txn) : Prop where
  fmt : ∀ n, i64 n → plainS (fmt n) = true
  body : ∀ p ∈ procs, ∀ t ∈ p.body, rngS t
  args : ∀ t ∈ l, ∀ v ∈ t.args, rngV v
abbrev rngL (s : List Pr) : Prop := ∀ q ∈ s, rngV q.v
section
variable {fmt : Int → Bytes}
theorem findP_mem {procs : List Proc} {t : Txn} {p : Proc} (h : findP procs t = some p) : p ∈ procs ∧ argsErr p t.args = 0 := by
  unfold findP at h
  split at h
  · cases h
  · rename_i q hq
    split at h
    · cases h
      exact ⟨List.mem_of_find?_eq_some hq, by assumption⟩
    · cases h
theorem run_same {p : Proc} {args : List V} {a b : List Pr} {ft : Foot} (ha : stateOk a = true) (hb : stateOk b = true) (hg : ∀ k ∈ (runS fmt p args a ft).reads, getP a k = getP b k) : runS fmt p args b ft = runS fmt p args a ft := by
  by_cases h : runOk p args a ft
  · have hr := (runOk_iff _ _ _ _).1 h
    have h' : runOk p args b ft := (runOk_iff _ _ _ _).2 ⟨hr.1, hr.2.1, hb, hr.2.2.2⟩
    rw [runS_yes h, done_reads] at hg
    rw [runS_yes h, runS_yes h']
    exact congrArg doneS (two_blk (alike_local (cfgR fmt a ft) b) p.body (ms0 p args) hg)
  · have h' : ¬ runOk p args b ft := fun h' => h (by
      have := (runOk_iff _ _ _ _).1 h'
      exact (runOk_iff _ _ _ _).2 ⟨this.1, this.2.1, ha, this.2.2.2⟩)
    rw [runS_no h, runS_no h']
theorem run_commit_ok {p : Proc} {args : List V} {s : List Pr} {ft : Foot} (h : (runS fmt p args s ft).status = 1) : stateOk s = true := by
  by_cases hr : runOk p args s ft
  · exact ((runOk_iff _ _ _ _).1 hr).2.2.1
  · rw [runS_no hr] at h; simp [wrongE] at h
theorem run_rngW {p : Proc} {args : List V} {s : List Pr} {ft : Foot} (hI : RunIn fmt p args s) : rngL (runS fmt p args s ft).writes := by
  by_cases hr : runOk p args s ft
  · have hr' := (runOk_iff _ _ _ _).1 hr
    rw [runS_yes hr]
    rcases hx : blkI (cfgR fmt s ft) p.body (ms0 p args) with ⟨z | u, m⟩
    · intro q hq; simp [doneS] at hq
    · have hi := blkI_ok (C := cfgR fmt s ft) (fun q hq => hI.st q hq) p.body _ _ _ (cost_goS hr'.1 hI.body) (inv0 hI) hx
      intro q hq
      simp only [doneS, List.mem_map] at hq
      obtain ⟨k, _, rfl⟩ := hq
      simp only
      rcases hg : kGet m.own k with _ | w
      · exact rng_nil
      · exact hi.rng.2 _ (kGet_mem hg)
  · rw [runS_no hr]; intro q hq; cases hq
theorem run_lenW {p : Proc} {args : List V} {s : List Pr} {ft : Foot} (hI : RunIn fmt p args s) : (runS fmt p args s ft).writes.length ≤ 64 := by
  by_cases h1 : (runS fmt p args s ft).status = 1
  · have h := (run_commit hI h1).1
    have hl : (runS fmt p args s ft).writes.length = (runS fmt p args s ft).puts.length := by rw [← h, List.length_map]
    by_cases hc : costErr p = 0
    · have h1 := run_bounds (ft := ft) hI hc
      have h2 := cost_lim hc
      omega
    · rw [run_wrong hc]; simp [wrongE]
  · rw [(run_else h1).1]; simp
theorem rngL_apply {l w : List Pr} (hl : rngL l) (hw : rngL w) (al : stateOk l = true) (aw : writesOk w = true) : rngL (applyP l w) := fun q hq => by
  rcases ((applyP_spec ((stateOk_iff l).1 al).2.2 ((writesOk_iff w).1 aw).2.2).2 q).1 hq with h | h
  · exact hl q h.1
  · exact hw q h.1
theorem addP_len : ∀ (w out : List Pr), (addP out w).length ≤ out.length + w.length
  | [], out => by simp [addP]
  | p :: w, out => by
    rw [addP]
    split
    · have := addP_len w out; simp only [List.length_cons]; omega
    · have := addP_len w (withP out p)
      have h : (withP out p).length = out.length + 1 := by
        unfold withP
        simp only [List.length_append, List.length_take, List.length_cons, List.length_drop]
        omega
      simp only [List.length_cons]; omega
theorem applyP_len (l w : List Pr) : (applyP l w).length ≤ l.length + w.length := by
  have h1 := addP_len w (keepP w l)
  have h2 := (keepP_spec w l).1.length_le
  unfold applyP
  omega
structure OneOk (s : List Pr) (x : List Pr × Eff) : Prop where
  rng : rngL x.1
  len : x.1.length ≤ s.length + 64
  ok : stateOk s = true → stateOk x.1 = true
  no : stateOk s = false → x.1 = s
  get : ∀ k, wroteS x.2 k = false → getP x.1 k = getP s k
  upd : x.1 = applyE s x.2
  rds : x.2.reads.length ≤ 64
  wrs : x.2.writes.length ≤ 64
  wrng : rngL x.2.writes
  com : x.2.status = 1 → stateOk s = true ∧ writesOk x.2.writes = true
theorem one_ok {procs : List Proc} {s : List Pr} {t : Txn} (hf : ∀ n, i64 n → plainS (fmt n) = true) (hb : ∀ p ∈ procs, ∀ t ∈ p.body, rngS t) (ha : ∀ v ∈ t.args, rngV v) (hs : rngL s) : OneOk s (oneS fmt procs s t) := by
  unfold oneS
  split
  · exact { rng := hs, len := by simp, ok := id, no := fun _ => rfl, get := fun _ _ => rfl, upd := by simp [applyE, wrongE], rds := by simp [wrongE], wrs := by simp [wrongE], wrng := by intro q hq; simp [wrongE] at hq, com := fun h => by simp [wrongE] at h }
  · rename_i p hp
    have hI : RunIn fmt p t.args s := ⟨hf, hb p (findP_mem hp).1, ha, hs⟩
    have hl : (runS fmt p t.args s t.ft).reads.length ≤ 64 := by
      by_cases hc : costErr p = 0
      · have h1 := run_bounds (ft := t.ft) hI hc
        have h2 := cost_lim hc
        omega
      · rw [run_wrong hc]; simp [wrongE]
    have hw := run_lenW (ft := t.ft) hI
    have hwr := run_rngW (ft := t.ft) hI
    split
    · rename_i h1
      have hs1 := run_commit_ok h1
      have hw1 := (run_commit hI h1).2.2
      refine ⟨rngL_apply hs hwr hs1 hw1, ?_, fun _ => applyP_ok hs1 hw1, fun h => ?_, fun k hk => ?_, ?_, hl, hw, hwr, fun _ => ⟨hs1, hw1⟩⟩
      · have := applyP_len s (runS fmt p t.args s t.ft).writes; simp only; omega
      · rw [hs1] at h; cases h
      · obtain ⟨w1, w2, w3⟩ := (writesOk_iff _).1 hw1
        simp only at hk ⊢
        rw [getP_apply ((stateOk_iff s).1 hs1).2.2 w3 w1]
        simp only [wroteS, h1, decide_true, Bool.true_and] at hk
        simp [hk]
      · simp only [applyE]; rw [if_pos ⟨h1, hs1, hw1⟩]
    · rename_i h1
      refine ⟨hs, by simp, id, fun _ => rfl, fun _ _ => rfl, ?_, hl, hw, hwr, fun h => (h1 h).elim⟩
      simp only [applyE]; rw [if_neg (fun h => h1 h.1)]
theorem one_same {procs : List Proc} {a b : List Pr} {t : Txn} (ha : stateOk a = true) (hb : stateOk b = true) (hg : ∀ k ∈ (oneS fmt procs a t).2.reads, getP a k = getP b k) : (oneS fmt procs b t).2 = (oneS fmt procs a t).2 := by
  unfold oneS at hg ⊢
  rcases hp : findP procs t with _ | p
  · rfl
  · rw [hp] at hg
    have h : runS fmt p t.args b t.ft = runS fmt p t.args a t.ft := run_same ha hb (fun k hk => hg k (by simp only; split <;> exact hk))
    simp only [h]
    split <;> rfl
theorem round_snoc (procs : List Proc) (s : List Pr) (l : List Txn) (t : Txn) : roundS fmt procs s (l ++ [t]) = ((oneS fmt procs (roundS fmt procs s l).1 t).1, (roundS fmt procs s l).2 ++ [(oneS fmt procs (roundS fmt procs s l).1 t).2]) := by
  unfold roundS
  rw [List.foldl_append]
  rfl
theorem occ_snoc (procs : List Proc) (s : List Pr) (l : List Txn) (t : Txn) : occS fmt procs s (l ++ [t]) = occStep fmt procs s (occS fmt procs s l) t := by
  unfold occS
  rw [List.foldl_append]
  rfl
structure RoundOk (s : List Pr) (n : Nat) (x : List Pr × List Eff) : Prop where
  rng : rngL x.1
  len : x.1.length ≤ s.length + 64 * n
  cnt : x.2.length = n
  ok : stateOk s = true → stateOk x.1 = true
  no : stateOk s = false → x.1 = s
  get : ∀ k, (∀ e ∈ x.2, wroteS e k = false) → getP x.1 k = getP s k
  rds : ∀ e ∈ x.2, e.reads.length ≤ 64
  wrs : ∀ e ∈ x.2, e.writes.length ≤ 64
  wrng : ∀ e ∈ x.2, rngL e.writes
theorem BatchIn.init {procs : List Proc} {l : List Txn} {t : Txn} (h : BatchIn fmt procs (l ++ [t])) : BatchIn fmt procs l := ⟨h.fmt, h.body, fun x hx => h.args x (by simp [hx])⟩
theorem BatchIn.take {procs : List Proc} {l : List Txn} (h : BatchIn fmt procs l) (n : Nat) : BatchIn fmt procs (l.take n) := ⟨h.fmt, h.body, fun x hx => h.args x (List.mem_of_mem_take hx)⟩
theorem snoc_ind {α : Type} {P : List α → Prop} (h0 : P []) (h1 : ∀ l x, P l → P (l ++ [x])) (l : List α) : P l := by
  have : ∀ n (l : List α), l.length = n → P l := by
    intro n
    induction n with
    | zero => intro l hl; rw [List.eq_nil_of_length_eq_zero hl]; exact h0
    | succ n ih =>
      intro l hl
      have hne : l ≠ [] := by rintro rfl; cases hl
      have e : l = l.dropLast ++ [l.getLast hne] := (List.dropLast_concat_getLast hne).symm
      rw [e]
      exact h1 _ _ (ih _ (by simp [hl]))
  exact this _ l rfl
theorem round_ok {procs : List Proc} {s : List Pr} (hs : rngL s) : ∀ (l : List Txn), BatchIn fmt procs l → RoundOk s l.length (roundS fmt procs s l) := by
  refine snoc_ind (fun _ => ⟨hs, by simp [roundS], rfl, id, fun _ => rfl, fun _ _ => rfl, by simp [roundS], by simp [roundS], by simp [roundS]⟩) fun l t ih hB => ?_
  have hR := ih hB.init
  have hO := one_ok (fmt := fmt) (procs := procs) (t := t) hB.fmt hB.body (hB.args t (by simp)) hR.rng
  rw [round_snoc]
  refine ⟨hO.rng, ?_, by simp [hR.cnt], fun h => hO.ok (hR.ok h), fun h => ?_, fun k hk => ?_, fun e he => ?_, fun e he => ?_, fun e he => ?_⟩
  · have := hR.len; have := hO.len; simp only [List.length_append, List.length_singleton]; omega
  · have h1 := hR.no h
    have := hO.no (by rw [h1]; exact h)
    exact this.trans h1
  · simp only [List.mem_append, List.mem_singleton] at hk
    rw [hO.get k (hk _ (.inr rfl)), hR.get k (fun e he => hk e (.inl he))]
  · simp only [List.mem_append, List.mem_singleton] at he
    rcases he with he | rfl
    · exact hR.rds e he
    · exact hO.rds
  · simp only [List.mem_append, List.mem_singleton] at he
    rcases he with he | rfl
    · exact hR.wrs e he
    · exact hO.wrs
  · simp only [List.mem_append, List.mem_singleton] at he
    rcases he with he | rfl
    · exact hR.wrng e he
    · exact hO.wrng
theorem validO_iff {e : Eff} {l : List Eff} : validO e l = true ↔ ∀ k ∈ e.reads, ∀ x ∈ l, wroteS x k = false := by
  unfold validO
  simp [List.any_eq_false]
theorem one_stands {procs : List Proc} {s : List Pr} {l : List Txn} {t : Txn} (hs : rngL s) (hB : BatchIn fmt procs l) (hv : validO (oneS fmt procs s t).2 (roundS fmt procs s l).2 = true) : (oneS fmt procs (roundS fmt procs s l).1 t).2 = (oneS fmt procs s t).2 := by
  have hR := round_ok hs l hB
  rcases h : stateOk s with _ | _
  · rw [hR.no h]
  · refine one_same h (hR.ok h) fun k hk => ?_
    rw [hR.get k (validO_iff.1 hv k hk)]
theorem occ_serial {procs : List Proc} {s : List Pr} (hs : rngL s) : ∀ (l : List Txn), BatchIn fmt procs l → (occS fmt procs s l).1 = (roundS fmt procs s l).1 ∧ (occS fmt procs s l).2.1 = (roundS fmt procs s l).2 ∧ (occS fmt procs s l).2.2.length = l.length := by
  refine snoc_ind (fun _ => ⟨rfl, rfl, rfl⟩) fun l t ih hB => ?_
  obtain ⟨h1, h2, h3⟩ := ih hB.init
  have hR := round_ok hs l hB.init
  have hO := one_ok (fmt := fmt) (procs := procs) (t := t) hB.fmt hB.body (hB.args t (by simp)) hR.rng
  rw [round_snoc, occ_snoc, occStep, h1, h2]
  split
  · rename_i hv
    have he := one_stands hs hB.init hv
    rw [← he]
    exact ⟨hO.upd.symm, rfl, by simp [h3]⟩
  · exact ⟨hO.upd.symm, rfl, by simp [h3]⟩
end
end Go.Cw

namespace Go.Cw
open Go Go.Abs
def putW (q : Pr) (l : List Pr) : List Pr := if q.v.k = 0 then l else q :: l
def mergeP : List Pr → List Pr → List Pr
  | [], [] => []
  | [], q :: w => putW q (mergeP [] w)
  | p :: l, [] => p :: mergeP l []
  | p :: l, q :: w => if sLt p.key q.key = true then p :: mergeP l (q :: w) else if sLt q.key p.key = true then putW q (mergeP (p :: l) w) else putW q (mergeP l w)
termination_by l w => l.length + w.length
decreasing_by all_goals simp only [List.length_cons, List.length_nil]; omega
theorem asc_cons {p : Pr} {l : List Pr} : ascS (keysP (p :: l)) ↔ (∀ q ∈ l, sLt p.key q.key = true) ∧ ascS (keysP l) := by
  simp [ascS, keysP, List.pairwise_cons]
theorem asc_ext : ∀ {l m : List Pr}, ascS (keysP l) → ascS (keysP m) → (∀ q, q ∈ l ↔ q ∈ m) → l = m
  | [], [], _, _, _ => rfl
  | [], q :: m, _, _, h => by have := (h q).2 (by simp); cases this
  | p :: l, [], _, _, h => by have := (h p).1 (by simp); cases this
  | p :: l, q :: m, hl, hm, h => by
    rw [asc_cons] at hl hm
    have e : p = q := by
      rcases List.mem_cons.1 ((h p).1 (by simp)) with e | e
      · exact e
      · rcases List.mem_cons.1 ((h q).2 (by simp)) with e' | e'
        · exact e'.symm
        · have h1 := hm.1 _ e
          have h2 := hl.1 _ e'
          rw [sLt_asymm h1] at h2; cases h2
    subst e
    have : l = m := asc_ext hl.2 hm.2 fun q => by
      constructor
      · intro hq
        rcases List.mem_cons.1 ((h q).1 (by simp [hq])) with e | e
        · subst e; have := hl.1 _ hq; rw [sLt_irrefl] at this; cases this
        · exact e
      · intro hq
        rcases List.mem_cons.1 ((h q).2 (by simp [hq])) with e | e
        · subst e; have := hm.1 _ hq; rw [sLt_irrefl] at this; cases this
        · exact e
    rw [this]
theorem putW_mem {q x : Pr} {l : List Pr} : x ∈ putW q l ↔ (x = q ∧ x.v.k ≠ 0) ∨ x ∈ l := by
  unfold putW
  split
  · rename_i h
    constructor
    · exact .inr
    · rintro (⟨rfl, h'⟩ | h')
      · exact (h' h).elim
      · exact h'
  · rename_i h
    rw [List.mem_cons]
    constructor
    · rintro (rfl | h')
      · exact .inl ⟨rfl, h⟩
      · exact .inr h'
    · rintro (⟨rfl, _⟩ | h')
      · exact .inl rfl
      · exact .inr h'
theorem putW_asc {q : Pr} {l : List Pr} (h : ∀ x ∈ l, sLt q.key x.key = true) (hl : ascS (keysP l)) : ascS (keysP (putW q l)) := by
  unfold putW
  split
  · exact hl
  · exact asc_cons.2 ⟨h, hl⟩
theorem hasP_cons (q : Pr) (w : List Pr) (k : Bytes) : hasP (q :: w) k = (decide (q.key = k) || hasP w k) := by simp [hasP, anyL]
theorem mergeP_mem (l w : List Pr) : (∀ x ∈ mergeP l w, x ∈ l ∨ x ∈ w) := by
  induction l, w using mergeP.induct with
  | case1 => intro x hx; simp [mergeP] at hx
  | case2 q w ih =>
    intro x hx
    rw [mergeP, putW_mem] at hx
    rcases hx with ⟨rfl, _⟩ | hx
    · simp
    · rcases ih x hx with h | h <;> simp [h]
  | case3 p l ih =>
    intro x hx
    rw [mergeP, List.mem_cons] at hx
    rcases hx with rfl | hx
    · simp
    · rcases ih x hx with h | h <;> simp [h]
  | case4 p l q w h1 ih =>
    intro x hx
    rw [mergeP, if_pos h1, List.mem_cons] at hx
    rcases hx with rfl | hx
    · simp
    · rcases ih x hx with h | h
      · simp [h]
      · exact .inr h
  | case5 p l q w h1 h2 ih =>
    intro x hx
    rw [mergeP, if_neg h1, if_pos h2, putW_mem] at hx
    rcases hx with ⟨rfl, _⟩ | hx
    · simp
    · rcases ih x hx with h | h
      · exact .inl h
      · simp [h]
  | case6 p l q w h1 h2 ih =>
    intro x hx
    rw [mergeP, if_neg h1, if_neg h2, putW_mem] at hx
    rcases hx with ⟨rfl, _⟩ | hx
    · simp
    · rcases ih x hx with h | h <;> simp [h]
theorem sLt_eq {a b : Bytes} (h1 : ¬ sLt a b = true) (h2 : ¬ sLt b a = true) : a = b := by
  have := sLt_tri a b
  simp only [Bool.not_eq_true] at h1 h2
  rw [h1, h2] at this
  simpa using this
theorem hasP_lt {q : Bytes} {w : List Pr} (h : ∀ x ∈ w, sLt q x.key = true) : hasP w q = false := hasP_false.2 fun p hp e => by
  have := h p hp
  rw [e, sLt_irrefl] at this; cases this
theorem mergeP_spec (l w : List Pr) : ascS (keysP l) → ascS (keysP w) → ascS (keysP (mergeP l w)) ∧ ∀ q, q ∈ mergeP l w ↔ (q ∈ l ∧ hasP w q.key = false) ∨ (q ∈ w ∧ q.v.k ≠ 0) := by
  induction l, w using mergeP.induct with
  | case1 => intro _ _; simp [mergeP, keysP]
  | case2 q w ih =>
    intro hl hw
    rw [asc_cons] at hw
    obtain ⟨i1, i2⟩ := ih hl hw.2
    rw [mergeP]
    refine ⟨putW_asc (fun x hx => ?_) i1, fun x => ?_⟩
    · rcases mergeP_mem _ _ x hx with h | h
      · cases h
      · exact hw.1 x h
    · rw [putW_mem, i2]
      simp only [List.not_mem_nil, false_and, false_or, List.mem_cons]
      grind
  | case3 p l ih =>
    intro hl hw
    rw [asc_cons] at hl
    obtain ⟨i1, i2⟩ := ih hl.2 hw
    rw [mergeP]
    refine ⟨asc_cons.2 ⟨fun x hx => ?_, i1⟩, fun x => ?_⟩
    · rcases mergeP_mem _ _ x hx with h | h
      · exact hl.1 x h
      · cases h
    · rw [List.mem_cons, i2]
      simp [hasP, anyL]
  | case4 p l q w h1 ih =>
    intro hl hw
    have hw0 := hw
    rw [asc_cons] at hl hw
    obtain ⟨i1, i2⟩ := ih hl.2 hw0
    have hp : ∀ x ∈ q :: w, sLt p.key x.key = true := fun x hx => by
      rcases List.mem_cons.1 hx with rfl | hx
      · exact h1
      · exact sLt_trans h1 (hw.1 x hx)
    rw [mergeP, if_pos h1]
    refine ⟨asc_cons.2 ⟨fun x hx => ?_, i1⟩, fun x => ?_⟩
    · rcases mergeP_mem _ _ x hx with h | h
      · exact hl.1 x h
      · exact hp x h
    · rw [List.mem_cons, i2, List.mem_cons (a := x) (b := p)]
      have := hasP_lt hp
      constructor
      · rintro (rfl | ⟨h, h'⟩ | h)
        · exact .inl ⟨.inl rfl, this⟩
        · exact .inl ⟨.inr h, h'⟩
        · exact .inr h
      · rintro (⟨e | h, h'⟩ | h)
        · exact .inl e
        · exact .inr (.inl ⟨h, h'⟩)
        · exact .inr (.inr h)
  | case5 p l q w h1 h2 ih =>
    intro hl hw
    have hl0 := hl
    rw [asc_cons] at hl hw
    obtain ⟨i1, i2⟩ := ih hl0 hw.2
    have hq : ∀ x ∈ p :: l, sLt q.key x.key = true := fun x hx => by
      rcases List.mem_cons.1 hx with rfl | hx
      · exact h2
      · exact sLt_trans h2 (hl.1 x hx)
    rw [mergeP, if_neg h1, if_pos h2]
    refine ⟨putW_asc (fun x hx => ?_) i1, fun x => ?_⟩
    · rcases mergeP_mem _ _ x hx with h | h
      · exact hq x h
      · exact hw.1 x h
    · rw [putW_mem, i2, hasP_cons, List.mem_cons (a := x) (b := q)]
      constructor
      · rintro (⟨rfl, h⟩ | ⟨h, h'⟩ | ⟨h, h'⟩)
        · exact .inr ⟨.inl rfl, h⟩
        · refine .inl ⟨h, ?_⟩
          have : ¬ q.key = x.key := fun e => by have := hq x h; rw [e, sLt_irrefl] at this; cases this
          simp [this, h']
        · exact .inr ⟨.inr h, h'⟩
      · rintro (⟨h, h'⟩ | ⟨rfl | h, h'⟩)
        · simp only [Bool.or_eq_false_iff] at h'
          exact .inr (.inl ⟨h, h'.2⟩)
        · exact .inl ⟨rfl, h'⟩
        · exact .inr (.inr ⟨h, h'⟩)
  | case6 p l q w h1 h2 ih =>
    intro hl hw
    rw [asc_cons] at hl hw
    obtain ⟨i1, i2⟩ := ih hl.2 hw.2
    have e := sLt_eq h1 h2
    have hq : ∀ x ∈ l, sLt q.key x.key = true := fun x hx => by rw [← e]; exact hl.1 x hx
    rw [mergeP, if_neg h1, if_neg h2]
    refine ⟨putW_asc (fun x hx => ?_) i1, fun x => ?_⟩
    · rcases mergeP_mem _ _ x hx with h | h
      · exact hq x h
      · exact hw.1 x h
    · rw [putW_mem, i2, hasP_cons, List.mem_cons, List.mem_cons]
      constructor
      · rintro (⟨rfl, h⟩ | ⟨h, h'⟩ | ⟨h, h'⟩)
        · exact .inr ⟨.inl rfl, h⟩
        · refine .inl ⟨.inr h, ?_⟩
          have : ¬ q.key = x.key := fun e => by have := hq x h; rw [e, sLt_irrefl] at this; cases this
          simp [this, h']
        · exact .inr ⟨.inr h, h'⟩
      · rintro (⟨h | h, h'⟩ | ⟨rfl | h, h'⟩)
        · subst h
          simp only [Bool.or_eq_false_iff, decide_eq_false_iff_not] at h'
          exact (h'.1 e.symm).elim
        · simp only [Bool.or_eq_false_iff] at h'
          exact .inr (.inl ⟨h, h'.2⟩)
        · exact .inl ⟨rfl, h'⟩
        · exact .inr (.inr ⟨h, h'⟩)
theorem mergeP_eq {l w : List Pr} (hl : ascS (keysP l)) (hw : ascS (keysP w)) : mergeP l w = applyP l w := by
  obtain ⟨a1, a2⟩ := mergeP_spec l w hl hw
  obtain ⟨b1, b2⟩ := applyP_spec hl hw
  exact asc_ext a1 b1 fun q => by rw [a2, b2]
end Go.Cw

namespace Go.Cw
open Go Go.Abs
structure RM where
  vars : List Pr
  own : List Pr
  st : Int
  code : Int
  out : List V
  reads : List Bytes
  puts : List Bytes
  miss : Bytes
  steps : Int
def RM.c (C : Cfg) (m : RM) : List AV := [.slice (C.state.map Pr.c), Bo C.all, .slice (C.rd.map sRow), .slice (C.wr.map sRow), .slice (m.vars.map Pr.c), .slice (m.own.map Pr.c), I m.st, I m.code, .slice (m.out.map V.c), .slice (m.reads.map sRow), .slice (m.puts.map sRow), .slice [], S m.miss, I m.steps]
def RM.ab (m : RM) (c : Int) : RM := { m with st := 2, code := c, out := [] }
def RM.rst (m : RM) (k : Bytes) : RM := { m with st := 3, code := 0, out := [], miss := k }
section
variable (C : Cfg)
end
end Go.Cw

namespace Go.Cw
open Go Go.Abs
theorem cmpL_lt : ∀ (a b : List UInt8), (Go.Lib.compareBytes a b < 0 ↔ Op.bytesLess a b = true) ∧ (Go.Lib.compareBytes a b = 0 ↔ a = b)
  | [], [] => by simp [Go.Lib.compareBytes, Op.bytesLess]
  | [], _ :: _ => by simp [Go.Lib.compareBytes, Op.bytesLess]
  | _ :: _, [] => by simp [Go.Lib.compareBytes, Op.bytesLess]
  | x :: a, y :: b => by
    have ih := cmpL_lt a b
    simp only [Go.Lib.compareBytes, Op.bytesLess, List.cons.injEq]
    split
    · rename_i h
      have : x ≠ y := by rintro rfl; exact absurd h (by simp)
      simp [h, this]
    · rename_i h
      split
      · rename_i h2
        have : x ≠ y := by rintro rfl; exact absurd h2 (by simp)
        simp [h, this]
      · rename_i h2
        have : x = y := by
          apply UInt8.toNat_inj.1
          have h3 : ¬ x.toNat < y.toNat := h
          have h4 : ¬ y.toNat < x.toNat := h2
          omega
        subst this
        simp [ih]
theorem cmpS_lt (a b : Bytes) : (cmpS a b < 0 ↔ sLt a b = true) ∧ (cmpS a b = 0 ↔ a = b) := by
  have h := cmpL_lt a.data.toList b.data.toList
  have e : ∀ x : Bytes, x.toList = x.data.toList := fun x => by simp [ByteArray.toList_eq]
  refine ⟨?_, ?_⟩
  · unfold cmpS sLt
    rw [e, e]
    exact h.1
  · unfold cmpS
    rw [h.2]
    constructor
    · intro he
      have : a.data = b.data := Array.toList_inj.1 he
      cases a; cases b; simp_all
    · rintro rfl; rfl
structure Sim (s : MS) (m : RM) : Prop where
  vars : ∀ k, kGet s.vars k = if hasP m.vars k = true then some (getP m.vars k) else none
  own : ∀ k, kGet s.own k = if hasK s.puts k = true then some (getP m.own k) else none
  keys : keysP m.own = s.puts
  out : m.out = s.out
  reads : m.reads = s.reads
  puts : m.puts = s.puts
  steps : m.steps = s.steps
  st : m.st = 0
  code : m.code = 0
  miss : m.miss = em
structure Dead (z : Stop) (s : MS) (m : RM) : Prop where
  reads : m.reads = s.reads
  puts : m.puts = s.puts
  steps : m.steps = s.steps
  out : m.out = []
  st : m.st = z.status
  code : m.code = z.code
  miss : m.miss = z.miss
  ne : z.status ≠ 0
theorem Sim.ab {s : MS} {m : RM} (h : Sim s m) (c : Int) : Dead (ab c) s (m.ab c) := ⟨h.reads, h.puts, h.steps, rfl, rfl, rfl, h.miss, by simp [Go.Cw.ab]⟩
theorem Sim.rst {s : MS} {m : RM} (h : Sim s m) (k : Bytes) : Dead (rst k) s (m.rst k) := ⟨h.reads, h.puts, h.steps, rfl, rfl, rfl, rfl, by simp [Go.Cw.rst]⟩
def EvSim (x : EV × MS) (y : V × RM) : Prop := match x.1 with
  | .ok v => y.1 = v ∧ Sim x.2 y.2
  | .error z => y.1 = V.nil ∧ Dead z x.2 y.2
theorem EvSim.ok {v : V} {s : MS} {m : RM} (h : Sim s m) : EvSim (.ok v, s) (v, m) := ⟨rfl, h⟩
theorem EvSim.ab {c : Int} {s : MS} {m : RM} (h : Sim s m) : EvSim (.error (ab c), s) (V.nil, m.ab c) := ⟨rfl, h.ab c⟩
section
variable {C : Cfg}
end
end Go.Cw

namespace Go.Cw
open Go Go.Abs
structure YH (P : Program) (l : Nat) (HF : Nat → AHeap) (HX : Nat → Ex → AHeap) (stop : Ex → Bool) (n0 : Nat) : Prop where
  len : ∀ k, (HF k).length = n0
  lenX : ∀ k x, (HX k x).length = n0
  und : ∀ k, hUnder n0 (HF k) = true
  undX : ∀ k x, hUnder n0 (HX k x) = true
  y : ∀ k (x : Ex) (L : AHeap), AYield P l [.agg x.x] (HF k ++ L) fun r h' => (stop x = true → r = .ret (Bo false) ∧ h' = HX k x ++ L) ∧ (stop x = false → r = .ret (Bo true) ∧ h' = HF (k + 1) ++ L)
theorem YH.ext {P : Program} {l : Nat} {HF : Nat → AHeap} {HX : Nat → Ex → AHeap} {stop : Ex → Bool} {n0 : Nat} (Y : YH P l HF HX stop n0) (L : AHeap) (hL : hUnder (n0 + L.length) L = true) : YH P l (fun k => HF k ++ L) (fun k x => HX k x ++ L) stop (n0 + L.length) where
  len := fun k => by rw [List.length_append, Y.len]
  lenX := fun k x => by rw [List.length_append, Y.lenX]
  und := fun k => by rw [hUnder_app, hUnder_mono (by omega) (Y.und k), hL]; rfl
  undX := fun k x => by rw [hUnder_app, hUnder_mono (by omega) (Y.undX k x), hL]; rfl
  y := fun k x L' => by simpa [List.append_assoc] using Y.y k x (L ++ L')
def finY (HF : Nat → AHeap) (HX : Nat → Ex → AHeap) (r : Nat × Option Ex) : AHeap := match r.2 with
  | none => HF r.1
  | some e => HX r.1 e
def gM (ms : List (Option Nat)) : AHeap := ms.map fun | none => .none | some D => markO D
def dM (ms : List (Option Nat)) : List Deferred := (ms.filterMap id).reverse.map coll
def idxM : Nat → List (Option Nat) → List (Nat × Nat)
  | _, [] => []
  | k, none :: l => idxM (k + 1) l
  | k, some D :: l => idxM (k + 1) l ++ [(k, D)]
theorem idxM_coll : ∀ (ms : List (Option Nat)) (k : Nat), (idxM k ms).map (fun p => coll p.2) = dM ms
  | [], _ => rfl
  | none :: l, k => by simp only [idxM, idxM_coll l]; rfl
  | some D :: l, k => by simp [idxM, idxM_coll l, dM]
theorem idxM_ge : ∀ (ms : List (Option Nat)) (k : Nat) (p : Nat × Nat), p ∈ idxM k ms → k ≤ p.1 ∧ p.1 < k + ms.length ∧ (gM ms)[p.1 - k]? = some (markO p.2)
  | [], _, p, h => by simp [idxM] at h
  | none :: l, k, p, h => by
    obtain ⟨h1, h2, h3⟩ := idxM_ge l (k + 1) p h
    refine ⟨by omega, by simp; omega, ?_⟩
    rw [show p.1 - k = (p.1 - (k + 1)) + 1 by omega]
    exact h3
  | some D :: l, k, p, h => by
    rw [idxM, List.mem_append] at h
    rcases h with h | h
    · obtain ⟨h1, h2, h3⟩ := idxM_ge l (k + 1) p h
      refine ⟨by omega, by simp; omega, ?_⟩
      rw [show p.1 - k = (p.1 - (k + 1)) + 1 by omega]
      exact h3
    · simp at h
      subst h
      refine ⟨by simp, by simp, ?_⟩
      simp [gM]
theorem idxM_nodup : ∀ (ms : List (Option Nat)) (k : Nat), ((idxM k ms).map (·.1)).Nodup
  | [], _ => List.nodup_nil
  | none :: l, k => idxM_nodup l (k + 1)
  | some D :: l, k => by
    rw [idxM, List.map_append, List.nodup_append]
    refine ⟨idxM_nodup l (k + 1), by simp, fun a ha b hb => ?_⟩
    rw [List.mem_map] at ha
    obtain ⟨p, hp, rfl⟩ := ha
    have := (idxM_ge l (k + 1) p hp).1
    simp at hb
    omega
theorem takeA : ∀ (l : List (Nat × Nat)) (A Z : AHeap), (∀ p, p ∈ l → A.length ≤ p.1) → ∃ Z', takeAll l (A ++ Z) = A ++ Z'
  | [], A, Z, _ => ⟨Z, rfl⟩
  | p :: l, A, Z, h => by
    rw [takeAll, List.set_append_right _ _ (h p (by simp))]
    exact takeA l A _ fun q hq => h q (by simp [hq])
theorem gM_app (a b : List (Option Nat)) : gM (a ++ b) = gM a ++ gM b := by simp [gM]
theorem dM_snoc (ms : List (Option Nat)) (D : Nat) : dM (ms ++ [none, none, some D]) = coll D :: dM ms := by simp [dM, List.filterMap_append]
theorem gM_und (ms : List (Option Nat)) (m : Nat) : hUnder m (gM ms) = true := by
  rw [hUnder_iff]
  intro o ho
  simp only [gM, List.mem_map] at ho
  obtain ⟨x, _, rfl⟩ := ho
  cases x <;> rfl
section
variable {P : Program} {E : Ent} {p : Tmp} {asg body : Code}
def recA (E : Ent) (e : Env) (p : Tmp) (asg body : Code) (l D : Nat) (fn : FuncId) (st : LoopState) (pe : Option Code) : AObj := .raw l (recO st pe fn #[p] asg body D) (slots E.N e)
def roundJ (E : Ent) (idx : Nat) (r0 rb rd : AObj) (R : AEnd → AHeap → Prop) : AExit → List Deferred → Env → Prop
  | .normal, _, e => e.h[idx]? = some rb ∧ ∃ h', Wk E ⟨[], e.h.set idx r0⟩ ⟨[], h'⟩ ∧ R (.ret (.val (.bool true))) h'
  | .ret, _, e => e.h[idx]? = some rb ∧ ∃ h', Wk E ⟨[], e.h.set idx rd⟩ ⟨[], h'⟩ ∧ R (.ret (.val (.bool false))) h'
  | _, _, _ => False
theorem awpI_rangeY {g : Operand} {gf : FuncId} {caps : List AV} {Q : AExit → List Deferred → Env → Prop} {ds : List Deferred} {e : Env} (hg : e.get g = .fn (.func gf) [] caps) (hcaps : ∀ H, normL H caps = caps)
    (B : Nat → AHeap) (X : Nat → Ex → AHeap) (stop : Ex → Bool) (xs : List Ex) (k n0 : Nat) (hB : e.h = B k) (len : ∀ j, (B j).length = n0) (lenX : ∀ j x, (X j x).length = n0) (und : ∀ j, hUnder n0 (B j) = true) (undX : ∀ j x, hUnder n0 (X j x) = true)
    (hsl : underL n0 (slots E.N e) = true) (hp : p < E.N)
    (hit : ∀ (l : Nat) (L : AHeap) (HX : Nat → Ex → AHeap) (n1 : Nat), YH P l (fun j => B j ++ L) HX stop n1 → ACalls P gf ([.fn (.yield l) [] []] ++ caps) (B k ++ L) fun r h' => r = .ret (.tuple []) ∧ h' = finY (fun j => B j ++ L) HX (scan stop xs k))
    (hround : ∀ (E' : Ent) (l D j : Nat) (x : Ex) (L : AHeap) (r0 rb rd : AObj), (∀ m, n0 ≤ m → r0.under m = true ∧ rb.under m = true ∧ rd.under m = true) → E'.N = E.N → E'.h = B j ++ markO D :: r0 :: L → hUnder E'.h.length E'.h = true → (AV.agg x.x).bd →
      AWpI P E' (some l) asg (thenI (fun ds e1 => ds = [] ∧ e1.h[n0 + 1]? = some r0 ∧
        AWpI P E' (some l) body (roundJ E' (n0 + 1) r0 rb rd fun r h' =>
          (stop x = true → r = .ret (Bo false) ∧ h' = X j x ++ markO D :: rd :: L) ∧ (stop x = false → r = .ret (Bo true) ∧ h' = B (j + 1) ++ markO D :: r0 :: L))
          [] ⟨e1.t, e1.h.set (n0 + 1) rb⟩) (fun _ _ _ => False)) [] ⟨(p, .agg x.x) :: slotsOf 0 (slots E.N e), E'.h⟩)
    (hdone : ∀ (j D : Nat) (o : AObj), scan stop xs k = (j, none) → Q .normal (coll D :: ds) ⟨e.t, B j ++ [markO D, o]⟩)
    (hstop : ∀ (j : Nat) (x : Ex) (D : Nat) (o : AObj), scan stop xs k = (j, some x) → Q .ret (coll D :: ds) ⟨e.t, X j x ++ [markO D, o]⟩) :
    AWpI P E none (.rangeFunc g #[p] asg body) Q ds e := by
  refine awpI_range hg fun fn D l => ?_
  have hL : ∀ st pe, hUnder (n0 + 2) [markO D, recA E e p asg body l D fn st pe] = true := fun st pe => by
    simp only [hUnder, markO, recA, AObj.under, underL, Bool.true_and, Bool.and_true]
    exact underL_mono (by omega) _ hsl
  have hnl : normL (e.h ++ [markO D, .raw l (recO .ready none fn #[p] asg body D) (slots E.N e)]) ([.fn (.yield l) [] []] ++ caps) = [.fn (.yield l) [] []] ++ caps := by
    have : ∀ (a b : List AV) H, normL H (a ++ b) = normL H a ++ normL H b := fun a b H => by
      induction a with
      | nil => rfl
      | cons x a ih => simp [normL, ih]
    rw [this, hcaps]
    simp [normL, AV.norm]
  rw [hnl, hB]
  have Y : YH P l (fun j => B j ++ [markO D, recA E e p asg body l D fn .ready none]) (fun j x => X j x ++ [markO D, recA E e p asg body l D fn .done (some .ret)]) stop (n0 + 2) := {
    len := fun j => by simp [len]
    lenX := fun j x => by simp [lenX]
    und := fun j => by rw [hUnder_app, hUnder_mono (by omega) (und j), hL]; rfl
    undX := fun j x => by rw [hUnder_app, hUnder_mono (by omega) (undX j x), hL]; rfl
    y := fun j x L => by
      have hidx : (B j ++ [markO D, recA E e p asg body l D fn .ready none] ++ L)[n0 + 1]? = some (.raw l (recO .ready none fn #[p] asg body D) (slots E.N e)) := by
        rw [List.append_assoc, List.getElem?_append_right (by rw [len]; omega), len, show n0 + 1 - n0 = 1 by omega]
        rfl
      refine ayield_of hidx (by simpa [slots] using hp) fun E' hN hh hu hbd _ => ?_
      have hN' : E'.N = E.N := by rw [hN]; simp [slots]
      have hh' : E'.h = B j ++ markO D :: recA E e p asg body l D fn .ready none :: L := by rw [hh]; simp
      have hun : ∀ st pe m, n0 ≤ m → (recA E e p asg body l D fn st pe).under m = true := fun st pe m hm => underL_mono hm _ hsl
      have := hround E' l D j x L _ (recA E e p asg body l D fn .busy none) (recA E e p asg body l D fn .done (some .ret)) (fun m hm => ⟨hun _ _ m hm, hun _ _ m hm, hun _ _ m hm⟩) hN' hh' (by rw [hh]; exact hu) hbd
      have hJ : ∀ R, roundJ E' (n0 + 1) (recA E e p asg body l D fn .ready none) (recA E e p asg body l D fn .busy none) (recA E e p asg body l D fn .done (some .ret)) R = roundI E' (n0 + 1) l fn #[p] asg body D (slots E.N e) R := fun R => by
        funext x ds e
        cases x <;> rfl
      rw [hJ, hh'] at this
      simpa [recA] using this }
  refine (hit l [markO D, recA E e p asg body l D fn .ready none] _ (n0 + 2) Y).mono ?_
  rintro r h' ⟨rfl, rfl⟩
  refine ⟨⟨_, rfl⟩, ?_⟩
  rcases hsc : scan stop xs k with ⟨j, _ | x⟩
  · refine ⟨.ready, none, by simp, ?_, ?_⟩
    · simp only [finY]
      rw [List.getElem?_append_right (by rw [len, len]; omega), len, len, show n0 + 1 - n0 = 1 by omega]
      rfl
    · simp only [finY]
      rw [List.set_append_right _ _ (by rw [len, len]; omega), len, len, show n0 + 1 - n0 = 1 by omega]
      exact hdone j D _ hsc
  · refine ⟨.done, some .ret, by simp, ?_, ?_⟩
    · simp only [finY]
      rw [List.getElem?_append_right (by rw [len, lenX]; omega), len, lenX, show n0 + 1 - n0 = 1 by omega]
      rfl
    · simp only [finY]
      rw [List.set_append_right _ _ (by rw [len, lenX]; omega), len, lenX, show n0 + 1 - n0 = 1 by omega]
      exact awpI_ret (hstop j x D _ hsc)
end
end Go.Cw

namespace Go.Cw
open Go Go.Abs
def bRow (b : Bool) : List AV := [.val (.bool b)]
section
variable {fmt : Int → Bytes}
theorem occ_take {procs : List Proc} {s : List Pr} {l : List Txn} {n : Nat} (h : n < l.length) : occS fmt procs s (l.take (n + 1)) = occStep fmt procs s (occS fmt procs s (l.take n)) l[n] := by
  rw [List.take_succ_eq_append_getElem h, occ_snoc]
theorem occ_len {procs : List Proc} {s : List Pr} : ∀ (l : List Txn), (occS fmt procs s l).2.1.length = l.length ∧ (occS fmt procs s l).2.2.length = l.length := by
  refine snoc_ind ⟨rfl, rfl⟩ fun l t ih => ?_
  rw [occ_snoc, occStep]
  split <;> simp [ih]
theorem occ_lenN {procs : List Proc} {s : List Pr} {l : List Txn} {n : Nat} (h : n ≤ l.length) : (occS fmt procs s (l.take n)).2.1.length = n ∧ (occS fmt procs s (l.take n)).2.2.length = n := by
  have := occ_len (fmt := fmt) (procs := procs) (s := s) (l.take n)
  rw [List.length_take, Nat.min_eq_left h] at this
  exact this
theorem specS_len {procs : List Proc} {s : List Pr} (l : List Txn) : (specS fmt procs s l).length = l.length := by simp [specS]
def occF (fmt : Int → Bytes) (procs : List Proc) (s : List Pr) (l : List Txn) (n : Nat) : List Eff := (occS fmt procs s (l.take n)).2.1 ++ (specS fmt procs s l).drop n
def occG (fmt : Int → Bytes) (procs : List Proc) (s : List Pr) (l : List Txn) (n : Nat) : List Bool := (occS fmt procs s (l.take n)).2.2 ++ List.replicate (l.length - n) false
theorem occF_0 (procs : List Proc) (s : List Pr) (l : List Txn) : occF fmt procs s l 0 = specS fmt procs s l := by simp [occF, occS]
theorem occG_0 (procs : List Proc) (s : List Pr) (l : List Txn) : occG fmt procs s l 0 = List.replicate l.length false := by simp [occG, occS]
theorem occF_end (procs : List Proc) (s : List Pr) (l : List Txn) : occF fmt procs s l l.length = (occS fmt procs s l).2.1 := by
  unfold occF
  rw [List.drop_eq_nil_of_le (by rw [specS_len]; exact Nat.le_refl _), List.take_length, List.append_nil]
theorem occG_end (procs : List Proc) (s : List Pr) (l : List Txn) : occG fmt procs s l l.length = (occS fmt procs s l).2.2 := by simp [occG]
theorem occF_len {procs : List Proc} {s : List Pr} {l : List Txn} {n : Nat} (h : n ≤ l.length) : (occF fmt procs s l n).length = l.length := by
  simp [occF, (occ_lenN (fmt := fmt) (procs := procs) (s := s) h).1, specS_len]; omega
theorem occG_len {procs : List Proc} {s : List Pr} {l : List Txn} {n : Nat} (h : n ≤ l.length) : (occG fmt procs s l n).length = l.length := by
  simp [occG, (occ_lenN (fmt := fmt) (procs := procs) (s := s) h).2]; omega
theorem occF_get {procs : List Proc} {s : List Pr} {l : List Txn} {n : Nat} (h : n < l.length) : (occF fmt procs s l n)[n]? = some (oneS fmt procs s l[n]).2 := by
  have hl := (occ_lenN (fmt := fmt) (procs := procs) (s := s) (Nat.le_of_lt h)).1
  unfold occF
  rw [List.getElem?_append_right (by omega), hl, Nat.sub_self, List.getElem?_drop, specS, List.getElem?_map]
  simp [h]
theorem occF_take {procs : List Proc} {s : List Pr} {l : List Txn} {n : Nat} (h : n ≤ l.length) : (occF fmt procs s l n).take n = (occS fmt procs s (l.take n)).2.1 := by
  have hl := (occ_lenN (fmt := fmt) (procs := procs) (s := s) h).1
  unfold occF
  rw [List.take_append_of_le_length (by omega), List.take_of_length_le (by omega)]
theorem replace_mid {α : Type} {A B : List α} {x y : α} : (A ++ x :: B).set A.length y = A ++ y :: B := by
  rw [List.set_append_right _ _ (Nat.le_refl _)]; simp
theorem spec_drop {procs : List Proc} {s : List Pr} {l : List Txn} {n : Nat} (h : n < l.length) : (specS fmt procs s l).drop n = (oneS fmt procs s l[n]).2 :: (specS fmt procs s l).drop (n + 1) := by
  rw [List.drop_eq_getElem_cons (by rw [specS_len]; exact h)]
  simp [specS]
theorem rep_drop {m n : Nat} (h : n < m) : List.replicate (m - n) false = false :: List.replicate (m - (n + 1)) false := by
  rw [show m - n = (m - (n + 1)) + 1 by omega, List.replicate_succ]
theorem occ_stepOk {procs : List Proc} {s : List Pr} {l : List Txn} {n : Nat} (h : n < l.length) (hv : validO (oneS fmt procs s l[n]).2 (occS fmt procs s (l.take n)).2.1 = true) :
    occF fmt procs s l (n + 1) = occF fmt procs s l n ∧ occG fmt procs s l (n + 1) = occG fmt procs s l n ∧ (occS fmt procs s (l.take (n + 1))).1 = applyE (occS fmt procs s (l.take n)).1 (oneS fmt procs s l[n]).2 := by
  unfold occF occG
  rw [occ_take h, occStep, if_pos hv, spec_drop h, rep_drop h]
  simp
theorem occ_stepAgain {procs : List Proc} {s : List Pr} {l : List Txn} {n : Nat} (h : n < l.length) (hv : ¬ validO (oneS fmt procs s l[n]).2 (occS fmt procs s (l.take n)).2.1 = true) :
    occF fmt procs s l (n + 1) = (occF fmt procs s l n).set n (oneS fmt procs (occS fmt procs s (l.take n)).1 l[n]).2 ∧ occG fmt procs s l (n + 1) = (occG fmt procs s l n).set n true ∧
      (occS fmt procs s (l.take (n + 1))).1 = applyE (occS fmt procs s (l.take n)).1 (oneS fmt procs (occS fmt procs s (l.take n)).1 l[n]).2 := by
  obtain ⟨h1, h2⟩ := occ_lenN (fmt := fmt) (procs := procs) (s := s) (Nat.le_of_lt h)
  unfold occF occG
  rw [occ_take h, occStep, if_neg hv, spec_drop h, rep_drop h]
  have e1 : ∀ y B, ((occS fmt procs s (l.take n)).2.1 ++ (oneS fmt procs s l[n]).2 :: B).set n y = (occS fmt procs s (l.take n)).2.1 ++ y :: B := fun y B => by
    have := replace_mid (A := (occS fmt procs s (l.take n)).2.1) (B := B) (x := (oneS fmt procs s l[n]).2) (y := y)
    rwa [h1] at this
  have e2 : ∀ B, ((occS fmt procs s (l.take n)).2.2 ++ false :: B).set n true = (occS fmt procs s (l.take n)).2.2 ++ true :: B := fun B => by
    have := replace_mid (A := (occS fmt procs s (l.take n)).2.2) (B := B) (x := false) (y := true)
    rwa [h2] at this
  rw [e1, e2]
  simp
theorem occ_stepState {procs : List Proc} {s : List Pr} {l : List Txn} (hs : rngL s) (hB : BatchIn fmt procs l) (n : Nat) (h : n ≤ l.length) : rngL (occS fmt procs s (l.take n)).1 ∧ (occS fmt procs s (l.take n)).1.length ≤ s.length + 64 * n := by
  have h1 := (occ_serial hs (l.take n) (hB.take n)).1
  have h2 := round_ok hs (l.take n) (hB.take n)
  rw [h1]
  refine ⟨h2.rng, ?_⟩
  have := h2.len
  rw [List.length_take, Nat.min_eq_left h] at this
  exact this
theorem spec_next {procs : List Proc} {s : List Pr} {l : List Txn} {n : Nat} (h : n < l.length) : specS fmt procs s (l.take (n + 1)) = specS fmt procs s (l.take n) ++ [(oneS fmt procs s l[n]).2] := by
  rw [List.take_succ_eq_append_getElem h]
  unfold specS
  rw [List.map_append]
  rfl
theorem round_next {procs : List Proc} {s : List Pr} {l : List Txn} {n : Nat} (h : n < l.length) : roundS fmt procs s (l.take (n + 1)) = ((oneS fmt procs (roundS fmt procs s (l.take n)).1 l[n]).1, (roundS fmt procs s (l.take n)).2 ++ [(oneS fmt procs (roundS fmt procs s (l.take n)).1 l[n]).2]) := by
  rw [List.take_succ_eq_append_getElem h, round_snoc]
theorem runIn_one {procs : List Proc} {l : List Txn} {s : List Pr} (hB : BatchIn fmt procs l) (hs : rngL s) {t : Txn} (ht : t ∈ l) : ∀ p, findP procs t = some p → RunIn fmt p t.args s := fun p hp => ⟨hB.fmt, hB.body p (findP_mem hp).1, hB.args t ht, hs⟩
theorem round_stepState {procs : List Proc} {s : List Pr} {l : List Txn} (hs : rngL s) (hB : BatchIn fmt procs l) (n : Nat) (h : n ≤ l.length) : rngL (roundS fmt procs s (l.take n)).1 ∧ (roundS fmt procs s (l.take n)).1.length ≤ s.length + 64 * n ∧ (roundS fmt procs s (l.take n)).2.length = n := by
  have h2 := round_ok hs (l.take n) (hB.take n)
  have h3 := h2.len
  have h4 := h2.cnt
  rw [List.length_take, Nat.min_eq_left h] at h3 h4
  exact ⟨h2.rng, h3, h4⟩
end
end Go.Cw

namespace Go.Cw
open Go Go.Abs
def effF (f : Foot) : Foot := if footOk f.all f.reads f.writes = true then f else ⟨true, [], []⟩
def depS (a b : Foot) : Bool := if b.all = true then true else if a.all = true then decide (0 < b.reads.length) else a.writes.any fun k => hasK b.reads k
def depsOf (l : List Foot) (j : Nat) (f : Foot) : List Nat := (List.range j).filter fun i => match l[i]? with | some g => depS (effF g) (effF f) | none => false
section
variable {fmt : Int → Bytes}
def serSt (fmt : Int → Bytes) (procs : List Proc) (s : List Pr) (l : List Txn) (i : Nat) : List Pr := (roundS fmt procs s (l.take i)).1
def serEf (fmt : Int → Bytes) (procs : List Proc) (s : List Pr) (l : List Txn) (i : Nat) (t : Txn) : Eff := (oneS fmt procs (serSt fmt procs s l i) t).2
theorem roundS_len {procs : List Proc} {s : List Pr} : ∀ (l : List Txn), (roundS fmt procs s l).2.length = l.length :=
  snoc_ind (by rfl) fun l t ih => by rw [round_snoc]; simp [ih]
theorem ser_effs {procs : List Proc} {s : List Pr} : ∀ (l : List Txn) (i : Nat) (h : i < l.length), (roundS fmt procs s l).2[i]? = some (serEf fmt procs s l i l[i]) := by
  refine snoc_ind (fun i h => by simp at h) fun l t ih i h => ?_
  rw [round_snoc]
  by_cases hi : i < l.length
  · have : (roundS fmt procs s l).2[i]? = some (serEf fmt procs s l i l[i]) := ih i hi
    rw [List.getElem?_append_left (by rw [roundS_len]; exact hi), this]
    unfold serEf serSt
    rw [List.getElem_append_left hi, List.take_append_of_le_length (by omega)]
  · have e : i = l.length := by simp at h; omega
    subst e
    have hl := roundS_len (fmt := fmt) (procs := procs) (s := s) l
    rw [List.getElem?_append_right (by omega), hl]
    simp [serEf, serSt]
structure MvIn (fmt : Int → Bytes) (procs : List Proc) (s : List Pr) (l : List Txn) (effs : List Eff) (done : List Bool) : Prop where
  le : effs.length = l.length
  ld : done.length = l.length
  ok : ∀ i (h : i < l.length), done.getD i false = true → effs[i]? = some (serEf fmt procs s l i l[i])
section
variable {procs : List Proc} {s : List Pr} {l : List Txn} {effs : List Eff} {done : List Bool}
theorem one_foot_reads {t : Txn} {k : Bytes} (h : k ∈ (oneS fmt procs s t).2.reads) : footOk t.ft.all t.ft.reads t.ft.writes = true ∧ (t.ft.all = true ∨ hasK t.ft.reads k = true) := by
  unfold oneS at h
  split at h
  · cases h
  · rename_i p hp
    have h : k ∈ (runS fmt p t.args s t.ft).reads := by split at h <;> exact h
    refine ⟨?_, (run_reads h).2.2⟩
    by_cases hr : runOk p t.args s t.ft
    · exact ((runOk_iff _ _ _ _).1 hr).2.2.2
    · rw [runS_no hr] at h; cases h
theorem one_foot_writes {t : Txn} {k : Bytes} (hB : BatchIn fmt procs [t]) (hs : rngL s) (h : wroteS (oneS fmt procs s t).2 k = true) : footOk t.ft.all t.ft.reads t.ft.writes = true ∧ (t.ft.all = true ∨ hasK t.ft.writes k = true) := by
  unfold oneS at h
  split at h
  · simp [wroteS, wrongE] at h
  · rename_i p hp
    have h : wroteS (runS fmt p t.args s t.ft) k = true := by split at h <;> exact h
    unfold wroteS at h
    simp only [Bool.and_eq_true, decide_eq_true_eq] at h
    have hI : RunIn fmt p t.args s := ⟨hB.fmt, hB.body p (findP_mem hp).1, hB.args t (by simp), hs⟩
    have hc := (run_commit (ft := t.ft) hI h.1).1
    have hk : k ∈ (runS fmt p t.args s t.ft).puts := by rw [← hc]; exact hasP_iff.1 h.2
    refine ⟨?_, (run_puts hk).2⟩
    by_cases hr : runOk p t.args s t.ft
    · exact ((runOk_iff _ _ _ _).1 hr).2.2.2
    · rw [runS_no hr] at h; simp [wrongE] at h
end
end
end Go.Cw

namespace Go.Cw
open Go Go.Abs
def depsL (fs : List Foot) (j : Nat) : List Nat := match fs[j]? with | some f => depsOf fs j f | none => []
section
variable (fmt : Int → Bytes)
end
structure MvJ (fmt : Int → Bytes) (procs : List Proc) (s : List Pr) (l : List Txn) (n : Nat) (x : List Eff × List Bool × List Nat) : Prop where
  inv : MvIn fmt procs s l x.1 x.2.1
  len : x.2.2.length = n
  nod : x.2.2.Nodup
  mem : ∀ j, x.2.1.getD j false = true ↔ j ∈ x.2.2
  lt : ∀ j ∈ x.2.2, j < l.length
  dep : ∀ a (h : a < x.2.2.length), ∀ i ∈ depsL (l.map (·.ft)) x.2.2[a], i ∈ x.2.2.take a
section
variable {fmt : Int → Bytes} {procs : List Proc} {s : List Pr} {l : List Txn} {choices : List Int}
end
end Go.Cw
