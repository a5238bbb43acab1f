/- Part 15 of a proof: CwL, CwM, CwN, CwO, CwP -/
import Derived.Test.YtgcdpfpffalalaaGreatDoorQ14
set_option linter.all false

/- What a run of statements keeps. No program in sight. -/
set_option linter.unusedSimpArgs false
namespace Go.Cw
open Go Go.Abs

@[simp] theorem kvSet_vI (l : List (Bytes × V)) (s : Bytes) (i : Int) : kvEnc (kvSet (l.map fun p => (p.1, vAV p.2)) s (.agg [I 1, I i, S em])) = kAV vAV (kSet l s (vI i)) := kvSet_map vAV l s (vI i)
/-- what is asked of a statement's expressions -/
def goX (e : Ex) : Prop := rngX e ∧ nodes e ≤ 4095
def goS : St → Prop
  | .mk op _ _ a b body els => (op ≠ 8 → goX a) ∧ (op = 3 ∨ op = 6 → goX b) ∧ (∀ x ∈ body.attach, goS x.1) ∧ ∀ x ∈ els.attach, goS x.1
termination_by s => SizeOf.sizeOf s
decreasing_by
  all_goals
    have := List.sizeOf_lt_of_mem x.2
    simp only [St.mk.sizeOf_spec]
    omega
theorem goS_iff (t : St) : goS t ↔ (t.op ≠ 8 → goX t.a) ∧ (t.op = 3 ∨ t.op = 6 → goX t.b) ∧ (∀ x ∈ t.body, goS x) ∧ ∀ x ∈ t.els, goS x := by
  cases t with
  | mk op name mx a b body els =>
    rw [goS]
    simp [St.op, St.a, St.b, St.body, St.els]
structure Inv (r p : Nat) (s : MS) : Prop where
  rng : rngM s
  ar : ascS s.reads
  ap : ascS s.puts
  st : s.steps ≤ 16384
  rd : ((s.reads.length + r : Nat) : Int) ≤ 8192 * s.steps
  pt : ((s.puts.length + p : Nat) : Int) ≤ s.steps
  ot : s.out.length ≤ 16
theorem Inv.mono {r p r' p' : Nat} {s : MS} (h : Inv r p s) (h1 : r' ≤ r) (h2 : p' ≤ p) : Inv r' p' s := ⟨h.rng, h.ar, h.ap, h.st, by have := h.rd; omega, by have := h.pt; omega, h.ot⟩
theorem Inv.ev {r p n : Nat} {s t : MS} (h : Inv (r + n) p s) (g : EvOk s n t) : Inv r p t := by
  have h1 := h.rd
  have h2 := g.len
  refine ⟨g.rng h.rng, g.asc, by rw [g.puts]; exact h.ap, by rw [g.steps]; exact h.st, by rw [g.steps]; omega, by rw [g.steps, g.puts]; exact h.pt, by rw [g.out]; exact h.ot⟩
theorem Inv.tick {s t : MS} {u : Unit} (h : Inv 0 0 s) (g : tickS s = (.ok u, t)) : Inv 8192 1 t := by
  unfold tickS at g
  split at g
  · cases g
  · cases g
    exact ⟨h.rng, h.ar, h.ap, by simp only; omega, by have := h.rd; simp only; omega, by have := h.pt; simp only; omega, h.ot⟩
theorem rngM_vars {s : MS} (h : rngM s) {v : V} (hv : rngV v) (k : Bytes) : rngM { s with vars := kSet s.vars k v } := ⟨fun p hp => by
  rcases kSet_mem hp with rfl | hp
  · exact hv
  · exact h.1 p hp, h.2⟩
theorem Inv.vars {r p : Nat} {s : MS} (h : Inv r p s) {v : V} (hv : rngV v) (k : Bytes) : Inv r p { s with vars := kSet s.vars k v } := ⟨rngM_vars h.rng hv k, h.ar, h.ap, h.st, h.rd, h.pt, h.ot⟩
section
variable {C : Cfg}
theorem Inv.store {r : Nat} {s t : MS} {u : Unit} {k : Bytes} {v : V} (h : Inv r 1 s) (hv : rngV v) (g : storeS C k v s = (.ok u, t)) : Inv r 0 t := by
  unfold storeS at g
  split at g
  · cases g
  split at g
  · cases g
  · cases g
    refine ⟨⟨h.rng.1, fun p hp => ?_⟩, h.ar, withS_asc h.ap k, h.st, h.rd, ?_, h.ot⟩
    · rcases kSet_mem hp with rfl | hp
      · exact hv
      · exact h.rng.2 p hp
    · have := withS_len s.puts k
      have := h.pt
      simp only
      omega
theorem Inv.emit {r p : Nat} {s t : MS} {u : Unit} {v : V} (h : Inv r p s) (g : emitS v s = (.ok u, t)) : Inv r p t := by
  unfold emitS at g
  split at g
  · cases g
  · rename_i hn
    cases g
    exact ⟨h.rng, h.ar, h.ap, h.st, h.rd, h.pt, by have := h.ot; simp; omega⟩
theorem Inv.eval (hC : rngC C) {r p : Nat} {s : MS} {e : Ex} (h : Inv (r + 4095) p s) (he : goX e) : Inv r p (evE C e s).2 ∧ ∀ v, (evE C e s).1 = .ok v → rngV v := by
  have h1 := evE_ok hC e s he.1 h.rng h.ar
  exact ⟨h.ev (h1.1.mono he.2), h1.2⟩
theorem loop_ok {body : MS → Except Stop Unit × MS} {name : Bytes} {b : Int} (hb : ∀ s u t, Inv 8192 1 s → body s = (.ok u, t) → Inv 0 0 t) : ∀ (f : Nat) (i : Int) (s : MS) (u : Unit) (t : MS), i64 i → Inv 0 0 s → loopS body name b f i s = (.ok u, t) → Inv 0 0 t
  | 0, i, s, u, t, _, h, g => by rw [loopS] at g; cases g; exact h
  | f + 1, i, s, u, t, hi, h, g => by
    rw [loopS] at g
    split at g
    · split at g
      · cases g
      · rename_i m' hm
        have h1 := (h.tick hm).vars (rng_vI hi) name
        split at g
        · cases g
        · rename_i m'' hm'
          exact loop_ok hb f _ _ _ _ (i64_w _) (hb _ _ _ h1 hm') g
    · cases g; exact h
mutual
theorem stI_ok (hC : rngC C) : ∀ (t : St) (s : MS) (u : Unit) (s' : MS), goS t → Inv 8192 1 s → stI C t s = (.ok u, s') → Inv 0 0 s'
  | .mk op name mx a b body els, s, u, s', hG, h, g => by
    have hG' := (goS_iff _).1 hG
    simp only [St.op, St.a, St.b, St.body, St.els] at hG'
    obtain ⟨hA, hB, hbody, hels⟩ := hG'
    rw [stI] at g
    split at g
    · have h1 := h.eval hC (r := 4097) (hA (by omega))
      split at g
      · cases g
      · rename_i v m' hm
        rw [hm] at h1
        cases g
        exact (h1.1.vars (h1.2 _ rfl) name).mono (by omega) (by omega)
    split at g
    · have h1 := h.eval hC (r := 4097) (hA (by omega))
      split at g
      · cases g
      · rename_i v m' hm
        rw [hm] at h1
        have h2 := h1.1.eval hC (r := 2) (hB (by omega))
        split at g
        · cases g
        · rename_i w m'' hm'
          rw [hm'] at h2
          split at g
          · exact (h2.1.store (h2.2 _ rfl) g).mono (by omega) (by omega)
          · cases g
    split at g
    · have h1 := h.eval hC (r := 4097) (hA (by omega))
      split at g
      · cases g
      · rename_i v m' hm
        rw [hm] at h1
        split at g
        · exact (h1.1.store rng_nil g).mono (by omega) (by omega)
        · cases g
    split at g
    · have h1 := h.eval hC (r := 4097) (hA (by omega))
      split at g
      · cases g
      · rename_i v m' hm
        rw [hm] at h1
        split at g
        · split at g
          · exact blkI_ok hC body _ _ _ hbody (h1.1.mono (by omega) (by omega)) g
          · exact blkI_ok hC els _ _ _ hels (h1.1.mono (by omega) (by omega)) g
        · cases g
    split at g
    · have h1 := h.eval hC (r := 4097) (hA (by omega))
      split at g
      · cases g
      · rename_i v m' hm
        rw [hm] at h1
        have h2 := h1.1.eval hC (r := 2) (hB (by omega))
        split at g
        · cases g
        · rename_i w m'' hm'
          rw [hm'] at h2
          split at g
          · split at g
            · cases g
            · exact loop_ok (fun s u t hs hg => blkI_ok hC body s u t hbody (hs.mono (by omega) (by omega)) hg) _ _ _ _ _ (h1.2 _ rfl).1 (h2.1.mono (by omega) (by omega)) g
          · cases g
    split at g
    · have h1 := h.eval hC (r := 4097) (hA (by omega))
      split at g
      · cases g
      · rename_i v m' hm
        rw [hm] at h1
        split at g
        · exact (h1.1.emit g).mono (by omega) (by omega)
        · cases g
    split at g
    · cases g
    · cases g
      exact h.mono (by omega) (by omega)
theorem blkI_ok (hC : rngC C) : ∀ (l : List St) (s : MS) (u : Unit) (s' : MS), (∀ x ∈ l, goS x) → Inv 0 0 s → blkI C l s = (.ok u, s') → Inv 0 0 s'
  | [], s, u, s', _, h, g => by rw [blkI] at g; cases g; exact h
  | t :: l, s, u, s', hG, h, g => by
    rw [blkI] at g
    split at g
    · cases g
    · rename_i m' hm
      split at g
      · cases g
      · rename_i m'' hm'
        exact blkI_ok hC l _ _ _ (fun x hx => hG x (by simp [hx])) (stI_ok hC t _ _ _ (hG t (by simp)) (h.tick hm) hm') g
end
end
end Go.Cw

/- The steps a run has made only grow. No program in sight. -/
set_option linter.unusedSimpArgs false
namespace Go.Cw
open Go Go.Abs
section
variable {C : Cfg}
theorem stI_eq (t : St) (m : MS) : stI C t m = 
    if t.op = 1 ∨ t.op = 2 then
      match evE C t.a m with
      | (.error z, m') => (.error z, m')
      | (.ok v, m') => (.ok (), { m' with vars := kSet m'.vars t.name v })
    else if t.op = 3 then
      match evE C t.a m with
      | (.error z, m') => (.error z, m')
      | (.ok k, m') => match evE C t.b m' with
        | (.error z, m'') => (.error z, m'')
        | (.ok v, m'') => if k.k = 2 ∧ (v.k = 1 ∨ v.k = 2) then storeS C k.s v m'' else (.error (ab 1009), m'')
    else if t.op = 4 then
      match evE C t.a m with
      | (.error z, m') => (.error z, m')
      | (.ok k, m') => if k.k = 2 then storeS C k.s V.nil m' else (.error (ab 1009), m')
    else if t.op = 5 then
      match evE C t.a m with
      | (.error z, m') => (.error z, m')
      | (.ok c, m') => if c.k = 3 then (if c.n = 1 then blkI C t.body m' else blkI C t.els m') else (.error (ab 1009), m')
    else if t.op = 6 then stI C t m
    else if t.op = 7 then
      match evE C t.a m with
      | (.error z, m') => (.error z, m')
      | (.ok v, m') => if v.k = 1 ∨ v.k = 2 then emitS v m' else (.error (ab 1009), m')
    else if t.op = 8 then (.error (ab t.max), m)
    else (.ok (), m) := by
  by_cases h6 : t.op = 6
  · simp [h6]
  cases t with
  | mk op name mx a b body els =>
    simp only [St.op, St.a, St.b, St.body, St.els, St.name, St.max] at h6 ⊢
    rw [stI]
    simp only [h6, if_false]
    rfl
theorem fetch_steps (k : Bytes) (s : MS) : (fetchS C k s).2.steps = s.steps := by
  unfold fetchS
  repeat' split
  all_goals rfl
theorem op_steps (op : Int) (l : List V) (s : MS) : (opS C op l s).2.steps = s.steps := by
  unfold opS
  split
  · rename_i a
    unfold unS
    have := fetch_steps (C := C) a.s s
    repeat' split
    all_goals first
      | rfl
      | (rename_i h; rw [h] at this; exact this)
  · rfl
  · rfl
mutual
theorem evE_steps : ∀ (e : Ex) (s : MS), (evE C e s).2.steps = s.steps
  | .mk op n t args, s => by
    have hL := evL_steps args s
    rw [evE]
    split
    · rfl
    split
    · rfl
    split
    · rfl
    split
    · rename_i h; rw [h] at hL; exact hL
    · rename_i h; rw [h] at hL; rw [op_steps]; exact hL
theorem evL_steps : ∀ (l : List Ex) (s : MS), (evL C l s).2.steps = s.steps
  | [], s => by rw [evL]
  | e :: l, s => by
    have hE := evE_steps e s
    rw [evL]
    split
    · rename_i h; rw [h] at hE; exact hE
    · rename_i m' h
      rw [h] at hE
      have hL := evL_steps l m'
      split
      · rename_i h2; rw [h2] at hL; exact hL.trans hE
      · rename_i h2; rw [h2] at hL; exact hL.trans hE
end
theorem tick_steps (s : MS) : (tickS s).2.steps = s.steps + 1 := rfl
theorem store_steps (k : Bytes) (v : V) (s : MS) : (storeS C k v s).2.steps = s.steps := by
  unfold storeS
  repeat' split
  all_goals rfl
theorem emit_steps (v : V) (s : MS) : (emitS v s).2.steps = s.steps := by
  unfold emitS
  split <;> rfl
theorem loop_steps {body : MS → Except Stop Unit × MS} {name : Bytes} {b : Int} (hb : ∀ s, s.steps ≤ (body s).2.steps) : ∀ (f : Nat) (i : Int) (s : MS), s.steps ≤ (loopS body name b f i s).2.steps
  | 0, i, s => by rw [loopS]; simp
  | f + 1, i, s => by
    have hT := tick_steps s
    rw [loopS]
    split
    · split
      · rename_i h; rw [h] at hT; simp only at hT ⊢; omega
      · rename_i m' h
        rw [h] at hT
        have hB := hb { m' with vars := kSet m'.vars name (vI i) }
        split
        · rename_i h2; rw [h2] at hB; simp only at hT hB ⊢; omega
        · rename_i m'' h2
          rw [h2] at hB
          have := loop_steps (name := name) (b := b) hb f (W64 (i + 1)) m''
          simp only at hT hB ⊢
          omega
    · simp
mutual
theorem stI_steps : ∀ (t : St) (s : MS), s.steps ≤ (stI C t s).2.steps
  | .mk op name mx a b body els, s => by
    have hE := evE_steps (C := C) a s
    rw [stI]
    split
    · split
      · rename_i h; rw [h] at hE; simp only at hE ⊢; omega
      · rename_i h; rw [h] at hE; simp only at hE ⊢; omega
    split
    · split
      · rename_i h; rw [h] at hE; simp only at hE ⊢; omega
      · rename_i k m' h
        rw [h] at hE
        have hE2 := evE_steps (C := C) b m'
        split
        · rename_i h2; rw [h2] at hE2; simp only at hE hE2 ⊢; omega
        · rename_i v m'' h2
          rw [h2] at hE2
          have := store_steps (C := C) k.s v m''
          split <;> simp only at hE hE2 ⊢ <;> omega
    split
    · split
      · rename_i h; rw [h] at hE; simp only at hE ⊢; omega
      · rename_i k m' h
        rw [h] at hE
        have := store_steps (C := C) k.s V.nil m'
        split <;> simp only at hE ⊢ <;> omega
    split
    · split
      · rename_i h; rw [h] at hE; simp only at hE ⊢; omega
      · rename_i k m' h
        rw [h] at hE
        have h1 := blkI_steps body m'
        have h2 := blkI_steps els m'
        split
        · split <;> simp only at hE ⊢ <;> omega
        · simp only at hE ⊢; omega
    split
    · split
      · rename_i h; rw [h] at hE; simp only at hE ⊢; omega
      · rename_i u m' h
        rw [h] at hE
        have hE2 := evE_steps (C := C) b m'
        split
        · rename_i h2; rw [h2] at hE2; simp only at hE hE2 ⊢; omega
        · rename_i v m'' h2
          rw [h2] at hE2
          have := loop_steps (body := fun x => blkI C body x) (name := name) (b := v.n) (fun s => blkI_steps body s) 16386 u.n m''
          split
          · split <;> simp only at hE hE2 ⊢ <;> omega
          · simp only at hE hE2 ⊢; omega
    split
    · split
      · rename_i h; rw [h] at hE; simp only at hE ⊢; omega
      · rename_i v m' h
        rw [h] at hE
        have := emit_steps v m'
        split <;> simp only at hE ⊢ <;> omega
    split
    · simp
    · simp
theorem blkI_steps : ∀ (l : List St) (s : MS), s.steps ≤ (blkI C l s).2.steps
  | [], s => by rw [blkI]; simp
  | t :: l, s => by
    have hT := tick_steps s
    rw [blkI]
    split
    · rename_i h; rw [h] at hT; simp only at hT ⊢; omega
    · rename_i m' h
      rw [h] at hT
      have hS := stI_steps t m'
      split
      · rename_i h2; rw [h2] at hS; simp only at hT hS ⊢; omega
      · rename_i m'' h2
        rw [h2] at hS
        have := blkI_steps l m''
        simp only at hT hS ⊢
        omega
end
end
end Go.Cw

/- From a valid body with values in range to what the walk of statements asks. No program in sight. -/
set_option linter.unusedSimpArgs false
namespace Go.Cw
open Go Go.Abs
def rngS : St → Prop
  | .mk _ _ _ a b body els => rngX a ∧ rngX b ∧ (∀ x ∈ body.attach, rngS x.1) ∧ ∀ x ∈ els.attach, rngS x.1
termination_by s => SizeOf.sizeOf s
decreasing_by
  all_goals
    have := List.sizeOf_lt_of_mem x.2
    simp only [St.mk.sizeOf_spec]
    omega
theorem rngS_iff (t : St) : rngS t ↔ rngX t.a ∧ rngX t.b ∧ (∀ x ∈ t.body, rngS x) ∧ ∀ x ∈ t.els, rngS x := by
  cases t with
  | mk op name mx a b body els =>
    rw [rngS]
    simp [St.a, St.b, St.body, St.els]
theorem goX_of {e : Ex} (h : chkE e 1 = 0) (hr : rngX e) : goX e := ⟨hr, by have := chkE_nodes e 1 12 h (by omega); omega⟩
theorem goS_of : ∀ (t : St) (d : Nat), okS t d → rngS t → goS t
  | .mk op name mx a b body els, d, h, hr => by
    have h1 := (okS_iff _ _).1 h
    have h2 := (rngS_iff _).1 hr
    refine (goS_iff _).2 ⟨fun k => goX_of (okS_a h k) h2.1, fun k => goX_of (okS_b h k) h2.2.1, fun x hx => ?_, fun x hx => ?_⟩
    · have := List.sizeOf_lt_of_mem (show x ∈ body from hx)
      exact goS_of x (d + 1) (h1.2.1 x hx) (h2.2.2.1 x hx)
    · have := List.sizeOf_lt_of_mem (show x ∈ els from hx)
      exact goS_of x (d + 1) (h1.2.2 x hx) (h2.2.2.2 x hx)
termination_by t => SizeOf.sizeOf t
decreasing_by
  all_goals
    simp only [St.mk.sizeOf_spec]
    omega
end Go.Cw

/- Induction over a run: what all steps keep, and what two configurations have in common. No program in sight. -/
set_option linter.unusedSimpArgs false
namespace Go.Cw
open Go Go.Abs

/-- A relation that every step of a run keeps. -/
structure Keeps (C : Cfg) (P : MS → MS → Prop) : Prop where
  refl : ∀ s, P s s
  trans : ∀ {a b c}, P a b → P b c → P a c
  fetch : ∀ k s, P s (fetchS C k s).2
  store : ∀ k v s, P s (storeS C k v s).2
  emit : ∀ v s, P s (emitS v s).2
  tick : ∀ s, P s (tickS s).2
  vars : ∀ s n v, P s { s with vars := kSet s.vars n v }

section
variable {C : Cfg} {P : MS → MS → Prop} (K : Keeps C P)
include K
theorem keep_op (op : Int) (l : List V) (s : MS) : P s (opS C op l s).2 := by
  unfold opS
  split
  · rename_i a
    unfold unS
    have := K.fetch a.s s
    repeat' split
    all_goals first
      | exact K.refl _
      | (rename_i h; rw [h] at this; exact this)
  · exact K.refl _
  · exact K.refl _
mutual
theorem keep_ev : ∀ (e : Ex) (s : MS), P s (evE C e s).2
  | .mk op n t args, s => by
    have hL := keep_evL args s
    rw [evE]
    split
    · exact K.refl _
    split
    · exact K.refl _
    split
    · exact K.refl _
    split
    · rename_i h; rw [h] at hL; exact hL
    · rename_i h; rw [h] at hL; exact K.trans hL (keep_op K _ _ _)
theorem keep_evL : ∀ (l : List Ex) (s : MS), P s (evL C l s).2
  | [], s => by rw [evL]; exact K.refl _
  | e :: l, s => by
    have hE := keep_ev e s
    rw [evL]
    split
    · rename_i h; rw [h] at hE; exact hE
    · rename_i m' h
      rw [h] at hE
      have hL := keep_evL l m'
      split
      · rename_i h2; rw [h2] at hL; exact K.trans hE hL
      · rename_i h2; rw [h2] at hL; exact K.trans hE hL
end
theorem keep_loop {body : MS → Except Stop Unit × MS} {name : Bytes} {b : Int} (hb : ∀ s, P s (body s).2) : ∀ (f : Nat) (i : Int) (s : MS), P s (loopS body name b f i s).2
  | 0, i, s => by rw [loopS]; exact K.refl _
  | f + 1, i, s => by
    have hT := K.tick s
    rw [loopS]
    split
    · split
      · rename_i h; rw [h] at hT; exact hT
      · rename_i m' h
        rw [h] at hT
        have hV := K.vars m' name (vI i)
        have hB := hb { m' with vars := kSet m'.vars name (vI i) }
        split
        · rename_i h2; rw [h2] at hB; exact K.trans hT (K.trans hV hB)
        · rename_i m'' h2
          rw [h2] at hB
          exact K.trans hT (K.trans hV (K.trans hB (keep_loop hb f (W64 (i + 1)) m'')))
    · exact K.refl _
mutual
theorem keep_st : ∀ (t : St) (s : MS), P s (stI C t s).2
  | .mk op name mx a b body els, s => by
    have hE := keep_ev K a s
    rw [stI]
    split
    · split
      · rename_i h; rw [h] at hE; exact hE
      · rename_i v m' h; rw [h] at hE; exact K.trans hE (K.vars _ _ _)
    split
    · split
      · rename_i h; rw [h] at hE; exact hE
      · rename_i k m' h
        rw [h] at hE
        have hE2 := keep_ev K b m'
        split
        · rename_i h2; rw [h2] at hE2; exact K.trans hE hE2
        · rename_i v m'' h2
          rw [h2] at hE2
          split
          · exact K.trans hE (K.trans hE2 (K.store _ _ _))
          · exact K.trans hE hE2
    split
    · split
      · rename_i h; rw [h] at hE; exact hE
      · rename_i k m' h
        rw [h] at hE
        split
        · exact K.trans hE (K.store _ _ _)
        · exact hE
    split
    · split
      · rename_i h; rw [h] at hE; exact hE
      · rename_i k m' h
        rw [h] at hE
        split
        · split
          · exact K.trans hE (keep_blk body m')
          · exact K.trans hE (keep_blk els m')
        · exact hE
    split
    · split
      · rename_i h; rw [h] at hE; exact hE
      · rename_i u m' h
        rw [h] at hE
        have hE2 := keep_ev K b m'
        split
        · rename_i h2; rw [h2] at hE2; exact K.trans hE hE2
        · rename_i v m'' h2
          rw [h2] at hE2
          split
          · split
            · exact K.trans hE hE2
            · exact K.trans hE (K.trans hE2 (keep_loop K (fun s => keep_blk body s) _ _ _))
          · exact K.trans hE hE2
    split
    · split
      · rename_i h; rw [h] at hE; exact hE
      · rename_i v m' h
        rw [h] at hE
        split
        · exact K.trans hE (K.emit _ _)
        · exact hE
    split
    · exact K.refl _
    · exact K.refl _
theorem keep_blk : ∀ (l : List St) (s : MS), P s (blkI C l s).2
  | [], s => by rw [blkI]; exact K.refl _
  | t :: l, s => by
    have hT := K.tick s
    rw [blkI]
    split
    · rename_i h; rw [h] at hT; exact hT
    · rename_i m' h
      rw [h] at hT
      have hS := keep_st t m'
      split
      · rename_i h2; rw [h2] at hS; exact K.trans hT hS
      · rename_i m'' h2
        rw [h2] at hS
        exact K.trans hT (K.trans hS (keep_blk l m''))
end
end

/-- the stop of a step, if it stopped -/
def er {α : Type} : Except Stop α → Option Stop
  | .error z => some z
  | .ok _ => none
/-- Two configurations under which runs go alike, as long as ok holds. -/
structure Alike (C D : Cfg) (P : MS → MS → Prop) (ok : Option Stop → MS → Prop) : Prop where
  K : Keeps C P
  fmt : D.fmt = C.fmt
  mono : ∀ {s t x}, P s t → ok x t → ok none s
  fetch : ∀ k s, ok (er (fetchS C k s).1) (fetchS C k s).2 → fetchS D k s = fetchS C k s
  store : ∀ k v s, ok (er (storeS C k v s).1) (storeS C k v s).2 → storeS D k v s = storeS C k v s
section
variable {C D : Cfg} {P : MS → MS → Prop} {ok : Option Stop → MS → Prop} (A : Alike C D P ok)
include A
theorem two_op (op : Int) (l : List V) (s : MS) (h : ok (er (opS C op l s).1) (opS C op l s).2) : opS D op l s = opS C op l s := by
  unfold opS at h ⊢
  split
  · rename_i a
    simp only at h ⊢
    unfold unS at h ⊢
    rw [A.fmt]
    by_cases h1 : op = 9
    · simp only [h1, if_true]
    by_cases h2 : op = 18
    · simp only [h1, h2, if_true, if_false]
    by_cases h3 : op = 20
    · simp only [h1, h2, h3, if_true, if_false]
    by_cases h4 : op = 21
    · simp only [h1, h2, h3, h4, if_true, if_false]
    by_cases h5 : a.k ≠ 2
    · simp only [h1, h2, h3, h4, h5, if_true, if_false, ne_eq, not_true, not_false_iff]
    · simp only [h1, h2, h3, h4, h5, if_false] at h ⊢
      have hF := A.fetch a.s s
      rcases hx : fetchS C a.s s with ⟨z | v, m'⟩
      · rw [hx] at h hF
        rw [hF h]
      · rw [hx] at h hF
        rw [hF (A.mono (A.K.refl _) h)]
  · rfl
  · rfl
mutual
theorem two_ev : ∀ (e : Ex) (s : MS), ok (er (evE C e s).1) (evE C e s).2 → evE D e s = evE C e s
  | .mk op n t args, s, h => by
    have hL := two_evL args s
    rw [evE] at h
    rw [evE, evE]
    by_cases h1 : op = 1
    · simp only [h1, if_true]
    by_cases h2 : op = 2
    · simp only [h1, h2, if_true, if_false]
    by_cases h3 : op = 3
    · simp only [h1, h2, h3, if_true, if_false]
    simp only [h1, h2, h3, if_false] at h ⊢
    rcases hx : evL C args s with ⟨z | l, m'⟩
    · rw [hx] at h hL
      rw [hL h]
    · rw [hx] at h hL
      rw [hL (A.mono (keep_op A.K _ _ _) h)]
      exact two_op A op l m' h
theorem two_evL : ∀ (l : List Ex) (s : MS), ok (er (evL C l s).1) (evL C l s).2 → evL D l s = evL C l s
  | [], s, _ => by rw [evL, evL]
  | e :: l, s, h => by
    have hE := two_ev e s
    rw [evL] at h
    rw [evL, evL]
    rcases hx : evE C e s with ⟨z | v, m'⟩
    · rw [hx] at h hE
      rw [hE h]
    · rw [hx] at h hE
      simp only at h ⊢
      have hL := two_evL l m'
      have hK := keep_evL A.K l m'
      rcases hy : evL C l m' with ⟨z | r, m''⟩
      · rw [hy] at h hL hK
        rw [hE (A.mono hK h)]
        simp only
        rw [hL h]
      · rw [hy] at h hL hK
        rw [hE (A.mono hK h)]
        simp only
        rw [hL h]
end
theorem two_loop {body body' : MS → Except Stop Unit × MS} {name : Bytes} {b : Int} (hk : ∀ s, P s (body s).2) (hb : ∀ s, ok (er (body s).1) (body s).2 → body' s = body s) : ∀ (f : Nat) (i : Int) (s : MS), ok (er (loopS body name b f i s).1) (loopS body name b f i s).2 → loopS body' name b f i s = loopS body name b f i s
  | 0, i, s, _ => by rw [loopS, loopS]
  | f + 1, i, s, h => by
    rw [loopS] at h
    rw [loopS, loopS]
    by_cases hi : i < b
    · simp only [hi, if_true] at h ⊢
      rcases hT : tickS s with ⟨z | u, m'⟩
      · rfl
      · rw [hT] at h
        simp only at h ⊢
        have hB := hb { m' with vars := kSet m'.vars name (vI i) }
        rcases hx : body { m' with vars := kSet m'.vars name (vI i) } with ⟨z | u, m''⟩
        · rw [hx] at h hB
          rw [hB h]
        · rw [hx] at h hB
          simp only at h ⊢
          rw [hB (A.mono (keep_loop A.K hk _ _ _) h)]
          exact two_loop hk hb f _ _ h
    · simp only [hi, if_false]
mutual
theorem two_st : ∀ (t : St) (s : MS), ok (er (stI C t s).1) (stI C t s).2 → stI D t s = stI C t s
  | .mk op name mx a b body els, s, h => by
    have hE := two_ev A a s
    rw [stI] at h
    rw [stI, stI]
    by_cases h1 : op = 1 ∨ op = 2
    · simp only [h1, if_true] at h ⊢
      rcases hx : evE C a s with ⟨z | v, m'⟩
      · rw [hx] at h hE; rw [hE h]
      · rw [hx] at h hE; rw [hE (A.mono (A.K.vars _ _ _) h)]
    simp only [h1, if_false] at h ⊢
    by_cases h3 : op = 3
    · simp only [h3, if_true] at h ⊢
      rcases hx : evE C a s with ⟨z | v, m'⟩
      · rw [hx] at h hE; rw [hE h]
      · rw [hx] at h hE
        simp only at h ⊢
        have hE2 := two_ev A b m'
        have hK := keep_ev A.K b m'
        rcases hy : evE C b m' with ⟨z | w, m''⟩
        · rw [hy] at h hE2 hK
          rw [hE (A.mono hK h)]
          simp only
          rw [hE2 h]
        · rw [hy] at h hE2 hK
          simp only at h ⊢
          split at h
          · rename_i hc
            have h0 := A.mono (A.K.store v.s w m'') h
            rw [hE (A.mono hK h0)]
            simp only
            rw [hE2 h0]
            simp only [hc, and_self, if_true]
            exact A.store v.s w m'' h
          · rename_i hc
            have h0 := A.mono (A.K.refl _) h
            rw [hE (A.mono hK h0)]
            simp only
            rw [hE2 h0]
            simp only [hc, if_false]
    simp only [h3, if_false] at h ⊢
    by_cases h4 : op = 4
    · simp only [h4, if_true] at h ⊢
      rcases hx : evE C a s with ⟨z | v, m'⟩
      · rw [hx] at h hE; rw [hE h]
      · rw [hx] at h hE
        simp only at h ⊢
        split at h
        · rename_i hc
          rw [hE (A.mono (A.K.store v.s V.nil m') h)]
          simp only [hc, if_true]
          exact A.store v.s V.nil m' h
        · rename_i hc
          rw [hE (A.mono (A.K.refl _) h)]
          simp only [hc, if_false]
    simp only [h4, if_false] at h ⊢
    by_cases h5 : op = 5
    · simp only [h5, if_true] at h ⊢
      rcases hx : evE C a s with ⟨z | v, m'⟩
      · rw [hx] at h hE; rw [hE h]
      · rw [hx] at h hE
        simp only at h ⊢
        split at h
        · rename_i hc
          split at h
          · rename_i hn
            rw [hE (A.mono (keep_blk A.K body m') h)]
            simp only [hc, hn, if_true]
            exact two_blk body m' h
          · rename_i hn
            rw [hE (A.mono (keep_blk A.K els m') h)]
            simp only [hc, hn, if_true, if_false]
            exact two_blk els m' h
        · rename_i hc
          rw [hE (A.mono (A.K.refl _) h)]
          simp only [hc, if_false]
    simp only [h5, if_false] at h ⊢
    by_cases h6 : op = 6
    · simp only [h6, if_true] at h ⊢
      rcases hx : evE C a s with ⟨z | v, m'⟩
      · rw [hx] at h hE; rw [hE h]
      · rw [hx] at h hE
        simp only at h ⊢
        have hE2 := two_ev A b m'
        have hK := keep_ev A.K b m'
        rcases hy : evE C b m' with ⟨z | w, m''⟩
        · rw [hy] at h hE2 hK
          rw [hE (A.mono hK h)]
          simp only
          rw [hE2 h]
        · rw [hy] at h hE2 hK
          simp only at h ⊢
          split at h
          · rename_i hc
            split at h
            · rename_i ht
              have h0 := A.mono (A.K.refl _) h
              rw [hE (A.mono hK h0)]
              simp only
              rw [hE2 h0]
              simp only [hc, ht, and_self, if_true]
            · rename_i ht
              have h0 := A.mono (keep_loop A.K (fun s => keep_blk A.K body s) _ _ _) h
              rw [hE (A.mono hK h0)]
              simp only
              rw [hE2 h0]
              simp only [hc, ht, and_self, if_true, if_false]
              exact two_loop A (fun s => keep_blk A.K body s) (fun s => two_blk body s) _ _ _ h
          · rename_i hc
            have h0 := A.mono (A.K.refl _) h
            rw [hE (A.mono hK h0)]
            simp only
            rw [hE2 h0]
            simp only [hc, if_false]
    simp only [h6, if_false] at h ⊢
    by_cases h7 : op = 7
    · simp only [h7, if_true] at h ⊢
      rcases hx : evE C a s with ⟨z | v, m'⟩
      · rw [hx] at h hE; rw [hE h]
      · rw [hx] at h hE
        simp only at h ⊢
        split at h
        · rename_i hc
          rw [hE (A.mono (A.K.emit v m') h)]
        · rename_i hc
          rw [hE (A.mono (A.K.refl _) h)]
    simp only [h7, if_false]
theorem two_blk : ∀ (l : List St) (s : MS), ok (er (blkI C l s).1) (blkI C l s).2 → blkI D l s = blkI C l s
  | [], s, _ => by rw [blkI, blkI]
  | t :: l, s, h => by
    rw [blkI] at h
    rw [blkI, blkI]
    rcases hT : tickS s with ⟨z | u, m'⟩
    · rfl
    · rw [hT] at h
      simp only at h ⊢
      have hS := two_st t m'
      rcases hx : stI C t m' with ⟨z | u, m''⟩
      · rw [hx] at h hS
        rw [hS h]
      · rw [hx] at h hS
        simp only at h ⊢
        rw [hS (A.mono (keep_blk A.K l m'') h)]
        exact two_blk l m'' h
end
end
end Go.Cw

/- A run depends only on what it reads; within its footprint it goes as without one. No program in sight. -/
set_option linter.unusedSimpArgs false
namespace Go.Cw
open Go Go.Abs

theorem withS_mem {l : List Bytes} {k x : Bytes} : x ∈ withS l k ↔ x = k ∨ x ∈ l := by
  unfold withS
  split
  · rename_i h
    have hk : k ∈ l := List.mem_of_getElem? h
    constructor
    · exact .inr
    · rintro (rfl | h)
      · exact hk
      · exact h
  · have e := List.take_append_drop (posS k l) l
    rw [List.mem_append, List.mem_cons]
    constructor
    · rintro (h | h | h)
      · exact .inr (List.mem_of_mem_take h)
      · exact .inl h
      · exact .inr (List.mem_of_mem_drop h)
    · rintro (h | h)
      · exact .inr (.inl h)
      · rw [← e, List.mem_append] at h
        rcases h with h | h
        · exact .inl h
        · exact .inr (.inr h)
/-- what has been read and put stays -/
def Grow (s t : MS) : Prop := (∀ k ∈ s.reads, k ∈ t.reads) ∧ (∀ k ∈ s.puts, k ∈ t.puts) ∧ s.steps ≤ t.steps
theorem Grow.refl (s : MS) : Grow s s := ⟨fun _ h => h, fun _ h => h, Nat.le_refl _⟩
theorem grow_keeps (C : Cfg) : Keeps C Grow where
  refl := Grow.refl
  trans := fun h g => ⟨fun k hk => g.1 k (h.1 k hk), fun k hk => g.2.1 k (h.2.1 k hk), Nat.le_trans h.2.2 g.2.2⟩
  fetch := fun k s => by
    unfold fetchS
    split
    · exact Grow.refl _
    split
    · exact Grow.refl _
    split
    · exact Grow.refl _
    · exact ⟨fun x hx => withS_mem.2 (.inr hx), fun _ h => h, Nat.le_refl _⟩
  store := fun k v s => by
    unfold storeS
    split
    · exact Grow.refl _
    split
    · exact Grow.refl _
    · exact ⟨fun _ h => h, fun x hx => withS_mem.2 (.inr hx), Nat.le_refl _⟩
  emit := fun v s => by
    unfold emitS
    split
    · exact Grow.refl _
    · exact ⟨fun _ h => h, fun _ h => h, Nat.le_refl _⟩
  tick := fun s => ⟨fun _ h => h, fun _ h => h, by simp [tickS]⟩
  vars := fun s n v => ⟨fun _ h => h, fun _ h => h, Nat.le_refl _⟩

/-! ### a run depends only on what it reads -/
theorem alike_local (C : Cfg) (st : List Pr) : Alike C { C with state := st } Grow (fun _ m => ∀ k ∈ m.reads, getP C.state k = getP st k) where
  K := grow_keeps C
  fmt := rfl
  mono := fun h g k hk => g k (h.1 k hk)
  fetch := fun k s h => by
    unfold fetchS at h ⊢
    split
    · rfl
    split
    · rfl
    split
    · rfl
    · rename_i h1 _ h2 h3
      simp only [h1, if_false, h2, h3] at h
      have := h k (withS_mem.2 (.inl rfl))
      simp only [this]
  store := fun k v s _ => rfl

/-! ### within the footprint -/
theorem alike_free (C : Cfg) (r w : List Bytes) : Alike C { C with all := true, rd := r, wr := w } (fun _ _ => True) (fun x _ => ∀ z, x = some z → z.status ≠ 3) where
  K := ⟨fun _ => trivial, fun _ _ => trivial, fun _ _ => trivial, fun _ _ _ => trivial, fun _ _ => trivial, fun _ => trivial, fun _ _ _ => trivial⟩
  fmt := rfl
  mono := fun _ _ z hz => by cases hz
  fetch := fun k s h => by
    unfold fetchS at h ⊢
    split
    · rfl
    split
    · rfl
    · rename_i h1 _ h2
      simp only [h1, if_false, h2] at h
      by_cases h3 : C.all = false ∧ hasK C.rd k = false
      · rw [if_pos h3] at h
        exact (h _ rfl rfl).elim
      · rw [if_neg h3, if_neg (by simp)]
  store := fun k v s h => by
    unfold storeS at h ⊢
    split
    · rfl
    · rename_i h1
      simp only [h1, if_false] at h
      by_cases h3 : C.all = false ∧ hasK C.wr k = false
      · rw [if_pos h3] at h
        exact (h _ rfl rfl).elim
      · rw [if_neg h3, if_neg (by simp)]

/-- what a run reads and puts -/
structure Fit (C : Cfg) (s t : MS) : Prop where
  rd : ∀ k ∈ t.reads, k ∈ s.reads ∨ (keyOk k = true ∧ (C.all = true ∨ hasK C.rd k = true))
  pt : ∀ k ∈ t.puts, k ∈ s.puts ∨ (keyOk k = true ∧ (C.all = true ∨ hasK C.wr k = true))
  ar : ascS s.reads → ascS t.reads
  ap : ascS s.puts → ascS t.puts
theorem Fit.refl (C : Cfg) (s : MS) : Fit C s s := ⟨fun _ h => .inl h, fun _ h => .inl h, id, id⟩
theorem fit_keeps (C : Cfg) : Keeps C (Fit C) where
  refl := Fit.refl C
  trans := fun h g => ⟨fun k hk => (g.rd k hk).elim (h.rd k) .inr, fun k hk => (g.pt k hk).elim (h.pt k) .inr, fun a => g.ar (h.ar a), fun a => g.ap (h.ap a)⟩
  fetch := fun k s => by
    unfold fetchS
    split
    · exact Fit.refl C _
    split
    · exact Fit.refl C _
    split
    · exact Fit.refl C _
    · rename_i h1 _ _ h3
      refine ⟨fun x hx => ?_, fun _ h => .inl h, fun a => withS_asc a k, id⟩
      rcases withS_mem.1 hx with rfl | hx
      · refine .inr ⟨by simpa using h1, ?_⟩
        rcases ha : C.all with _ | _
        · refine .inr ?_
          rcases hr : hasK C.rd x with _ | _
          · exact (h3 ⟨ha, hr⟩).elim
          · rfl
        · exact .inl rfl
      · exact .inl hx
  store := fun k v s => by
    unfold storeS
    split
    · exact Fit.refl C _
    split
    · exact Fit.refl C _
    · rename_i h1 h3
      refine ⟨fun _ h => .inl h, fun x hx => ?_, id, fun a => withS_asc a k⟩
      rcases withS_mem.1 hx with rfl | hx
      · refine .inr ⟨by simpa using h1, ?_⟩
        rcases ha : C.all with _ | _
        · refine .inr ?_
          rcases hr : hasK C.wr x with _ | _
          · exact (h3 ⟨ha, hr⟩).elim
          · rfl
        · exact .inl rfl
      · exact .inl hx
  emit := fun v s => by
    unfold emitS
    split
    · exact Fit.refl C _
    · exact ⟨fun _ h => .inl h, fun _ h => .inl h, id, id⟩
  tick := fun s => ⟨fun _ h => .inl h, fun _ h => .inl h, id, id⟩
  vars := fun s n v => ⟨fun _ h => .inl h, fun _ h => .inl h, id, id⟩

/-! ### how a run stops -/
/-- an abort, or a restart for a key outside of the footprint -/
def Stops (C : Cfg) (z : Stop) : Prop := (∃ c, z = ab c) ∨ ∃ k, z = rst k ∧ C.all = false ∧ keyOk k = true ∧ (hasK C.rd k = false ∨ hasK C.wr k = false)
theorem ab_exact {r : Int × Int} {z : Stop} (h : exactS r = .error z) : ∃ c, z = ab c := by
  unfold exactS at h
  repeat' split at h
  all_goals cases h
  all_goals exact ⟨_, rfl⟩
theorem ab_text {s : Bytes} {z : Stop} (h : textS s = .error z) : ∃ c, z = ab c := by
  unfold textS at h
  repeat' split at h
  all_goals cases h
  all_goals exact ⟨_, rfl⟩
theorem ab_bin {op : Int} {a b : V} {z : Stop} (h : binS op a b = .error z) : ∃ c, z = ab c := by
  unfold binS at h
  split at h
  · split at h
    · unfold arithS at h
      repeat' split at h
      all_goals exact ab_exact h
    · cases h; exact ⟨_, rfl⟩
  split at h
  · split at h <;> cases h
    exact ⟨_, rfl⟩
  split at h
  · split at h <;> cases h
    exact ⟨_, rfl⟩
  split at h
  · split at h
    · exact ab_text h
    · cases h; exact ⟨_, rfl⟩
  · unfold compS at h
    split at h <;> cases h
    exact ⟨_, rfl⟩
theorem ab_got {op : Int} {v : V} {z : Stop} (h : gotS op v = .error z) : ∃ c, z = ab c := by
  unfold gotS at h
  split at h
  · cases h
  split at h
  · cases h
  split at h
  · exact ab_text h
  split at h <;> cases h
  exact ⟨_, rfl⟩
section
variable {C : Cfg}
theorem stop_fetch {k : Bytes} {s t : MS} {z : Stop} (h : fetchS C k s = (.error z, t)) : Stops C z := by
  unfold fetchS at h
  split at h
  · cases h; exact .inl ⟨_, rfl⟩
  split at h
  · cases h
  split at h
  · rename_i h1 _ _ h3
    cases h
    exact .inr ⟨k, rfl, h3.1, by simpa using h1, .inl h3.2⟩
  · cases h
theorem stop_store {k : Bytes} {v : V} {s t : MS} {z : Stop} (h : storeS C k v s = (.error z, t)) : Stops C z := by
  unfold storeS at h
  split at h
  · cases h; exact .inl ⟨_, rfl⟩
  split at h
  · rename_i h1 h3
    cases h
    exact .inr ⟨k, rfl, h3.1, by simpa using h1, .inr h3.2⟩
  · cases h
theorem stop_emit {v : V} {s t : MS} {z : Stop} (h : emitS v s = (.error z, t)) : Stops C z := by
  unfold emitS at h
  split at h
  · cases h; exact .inl ⟨_, rfl⟩
  · cases h
theorem stop_tick {s t : MS} {z : Stop} (h : tickS s = (.error z, t)) : Stops C z := by
  unfold tickS at h
  split at h
  · cases h; exact .inl ⟨_, rfl⟩
  · cases h
theorem stop_op {op : Int} {l : List V} {s t : MS} {z : Stop} (h : opS C op l s = (.error z, t)) : Stops C z := by
  have hx : ∀ {x : EV} {u : MS}, (x, u) = ((.error z, t) : EV × MS) → x = .error z := fun h => congrArg Prod.fst h
  unfold opS at h
  split at h
  · rename_i a
    unfold unS at h
    split at h
    · have h := hx h
      split at h
      · exact .inl (ab_exact h)
      · cases h; exact .inl ⟨_, rfl⟩
    split at h
    · have h := hx h
      split at h <;> cases h
      exact .inl ⟨_, rfl⟩
    split at h
    · have h := hx h
      split at h
      · exact .inl (ab_text h)
      · cases h; exact .inl ⟨_, rfl⟩
    split at h
    · have h := hx h
      split at h <;> cases h
      exact .inl ⟨_, rfl⟩
    split at h
    · cases h; exact .inl ⟨_, rfl⟩
    split at h
    · rename_i hf
      cases h
      exact stop_fetch hf
    · exact .inl (ab_got (hx h))
  · exact .inl (ab_bin (hx h))
  · cases h; exact .inl ⟨_, rfl⟩
mutual
theorem stop_ev : ∀ (e : Ex) (s t : MS) (z : Stop), evE C e s = (.error z, t) → Stops C z
  | .mk op n x args, s, t, z, h => by
    rw [evE] at h
    split at h
    · cases h
    split at h
    · cases h
    split at h
    · have h := congrArg Prod.fst h
      simp only at h
      split at h <;> cases h
      exact .inl ⟨_, rfl⟩
    split at h
    · rename_i hL
      cases h
      exact stop_evL args s _ _ hL
    · exact stop_op h
theorem stop_evL : ∀ (l : List Ex) (s t : MS) (z : Stop), evL C l s = (.error z, t) → Stops C z
  | [], s, t, z, h => by rw [evL] at h; cases h
  | e :: l, s, t, z, h => by
    rw [evL] at h
    split at h
    · rename_i hE
      cases h
      exact stop_ev e s _ _ hE
    · split at h
      · rename_i hL
        cases h
        exact stop_evL l _ _ _ hL
      · cases h
end
theorem stop_loop {body : MS → Except Stop Unit × MS} {name : Bytes} {b : Int} (hb : ∀ s t z, body s = (.error z, t) → Stops C z) : ∀ (f : Nat) (i : Int) (s t : MS) (z : Stop), loopS body name b f i s = (.error z, t) → Stops C z
  | 0, i, s, t, z, h => by rw [loopS] at h; cases h
  | f + 1, i, s, t, z, h => by
    rw [loopS] at h
    split at h
    · split at h
      · rename_i hT
        cases h
        exact stop_tick hT
      · split at h
        · rename_i hB
          cases h
          exact hb _ _ _ hB
        · exact stop_loop hb f _ _ _ _ h
    · cases h
mutual
theorem stop_st : ∀ (x : St) (s t : MS) (z : Stop), stI C x s = (.error z, t) → Stops C z
  | .mk op name mx a b body els, s, t, z, h => by
    rw [stI] at h
    split at h
    · split at h
      · rename_i hE; cases h; exact stop_ev a s _ _ hE
      · cases h
    split at h
    · split at h
      · rename_i hE; cases h; exact stop_ev a s _ _ hE
      · split at h
        · rename_i hE; cases h; exact stop_ev b _ _ _ hE
        · split at h
          · exact stop_store h
          · cases h; exact .inl ⟨_, rfl⟩
    split at h
    · split at h
      · rename_i hE; cases h; exact stop_ev a s _ _ hE
      · split at h
        · exact stop_store h
        · cases h; exact .inl ⟨_, rfl⟩
    split at h
    · split at h
      · rename_i hE; cases h; exact stop_ev a s _ _ hE
      · split at h
        · split at h
          · exact stop_blk body _ _ _ h
          · exact stop_blk els _ _ _ h
        · cases h; exact .inl ⟨_, rfl⟩
    split at h
    · split at h
      · rename_i hE; cases h; exact stop_ev a s _ _ hE
      · split at h
        · rename_i hE; cases h; exact stop_ev b _ _ _ hE
        · split at h
          · split at h
            · cases h; exact .inl ⟨_, rfl⟩
            · exact stop_loop (fun s t z h => stop_blk body s t z h) _ _ _ _ _ h
          · cases h; exact .inl ⟨_, rfl⟩
    split at h
    · split at h
      · rename_i hE; cases h; exact stop_ev a s _ _ hE
      · split at h
        · exact stop_emit h
        · cases h; exact .inl ⟨_, rfl⟩
    split at h
    · cases h; exact .inl ⟨_, rfl⟩
    · cases h
theorem stop_blk : ∀ (l : List St) (s t : MS) (z : Stop), blkI C l s = (.error z, t) → Stops C z
  | [], s, t, z, h => by rw [blkI] at h; cases h
  | x :: l, s, t, z, h => by
    rw [blkI] at h
    split at h
    · rename_i hT; cases h; exact stop_tick hT
    · split at h
      · rename_i hS; cases h; exact stop_st x _ _ _ hS
      · exact stop_blk l _ _ _ h
end
end
end Go.Cw
