/- Part 18 of a proof: CwVe, CwVf -/
import Derived.Test.YtcmbmfmpelnimaaGreatDoorQ16
import Derived.Test.YtcmbmfmpelnimaaGreatDoorQ17
set_option linter.all false

namespace Go.Cw
open Go Go.Abs
structure RInv (r p : Nat) (m : RM) : Prop where
  vr : ∀ q ∈ m.vars, rngV q.v
  wr : ∀ q ∈ m.own, rngV q.v
  s0 : 0 ≤ m.steps
  s1 : m.steps ≤ 16384
  rd : ((m.reads.length + r : Nat) : Int) ≤ 8192 * m.steps + 8192
  pt : ((m.puts.length + p : Nat) : Int) ≤ m.steps
  ow : ((m.own.length + p : Nat) : Int) ≤ m.steps
  va : ((m.vars.length + p : Nat) : Int) ≤ m.steps + 34359738368
  ot : m.out.length ≤ 16
theorem RInv.mono {r p r' p' : Nat} {m : RM} (h : RInv r p m) (h1 : r' ≤ r) (h2 : p' ≤ p) : RInv r' p' m :=
  ⟨h.vr, h.wr, h.s0, h.s1, by have := h.rd; omega, by have := h.pt; omega, by have := h.ow; omega, by have := h.va; omega, h.ot⟩
theorem RInv.lenR {r p : Nat} {m : RM} (h : RInv r p m) : m.reads.length ≤ 134225920 := by have := h.rd; have := h.s1; omega
theorem RInv.lenP {r p : Nat} {m : RM} (h : RInv r p m) : m.puts.length ≤ 16384 := by have := h.pt; have := h.s1; omega
theorem RInv.lenO {r p : Nat} {m : RM} (h : RInv r p m) : m.own.length ≤ 16384 := by have := h.ow; have := h.s1; omega
theorem RInv.lenV {r p : Nat} {m : RM} (h : RInv r p m) : m.vars.length ≤ 34359754752 := by have := h.va; have := h.s1; omega
theorem setR_len (l : List Pr) (p : Pr) : (setR l p).length ≤ l.length + 1 := by
  have := posP_le p.key l
  unfold setR restP
  split <;> simp <;> omega
theorem setR_mem {l : List Pr} {p q : Pr} (h : q ∈ setR l p) : q = p ∨ q ∈ l := by
  unfold setR at h
  simp only [List.mem_append, List.mem_cons] at h
  rcases h with h | h | h
  · exact .inr (List.mem_of_mem_take h)
  · exact .inl h
  · exact .inr (List.mem_of_mem_drop h)
theorem arithR_eq (op a b : Int) : arithS op a b = exactS (arithR op a b) := by
  unfold arithS arithR
  split
  · rfl
  split
  · rfl
  split
  · rfl
  split <;> rfl
theorem arithR_i {op a b : Int} (hb : i64 b) (h : (arithR op a b).2 = 0) : i64 (arithR op a b).1 := by
  have := i64_arith (op := op) (a := a) (v := vI (arithR op a b).1) hb (by rw [arithR_eq]; unfold exactS; rw [if_pos h])
  exact this.1
theorem calcR_inv {r p : Nat} {m : RM} {x : Int × Int} (h : RInv r p m) (hx : x.2 = 0 → i64 x.1) (h0 : (calcR m x).2.st = 0) : RInv r p (calcR m x).2 ∧ rngV (calcR m x).1 := by
  unfold calcR at h0 ⊢
  split at h0
  · simp [RM.ab] at h0
  rename_i h4
  split at h0
  · simp [RM.ab] at h0
  rename_i h5
  rw [if_neg h4, if_neg h5]
  exact ⟨h, rng_vI (hx (by simpa using h5))⟩
section
variable {C : Cfg} (hC : rngC C)
include hC
theorem fetchR_inv {r p : Nat} {m : RM} (h : RInv (r + 1) p m) (k : Bytes) (h0 : (fetchR C m k).2.st = 0) : RInv r p (fetchR C m k).2 ∧ rngV (fetchR C m k).1 := by
  unfold fetchR at h0 ⊢
  split at h0
  · simp [RM.ab] at h0
  rename_i h1
  rw [if_neg h1]
  split at h0
  · rename_i h2
    rw [if_pos h2]
    exact ⟨h.mono (by omega) (Nat.le_refl _), rng_getP h.wr k⟩
  rename_i h2
  rw [if_neg h2]
  split at h0
  · simp [RM.rst] at h0
  rename_i h3
  rw [if_neg h3]
  refine ⟨⟨h.vr, h.wr, h.s0, h.s1, ?_, h.pt, h.ow, h.va, h.ot⟩, rng_getP hC k⟩
  have := withS_len m.reads k
  have := h.rd
  simp only
  omega
theorem twoR_inv {r p : Nat} {m : RM} (h : RInv r p m) {op : Int} {a b : V} (ha : rngV a) (hb : rngV b) (h0 : (twoR m op a b).2.st = 0) : RInv r p (twoR m op a b).2 ∧ rngV (twoR m op a b).1 := by
  unfold twoR at h0 ⊢
  split at h0
  · rename_i h1
    rw [if_pos h1]
    split at h0
    · rename_i h2
      rw [if_pos h2]
      exact calcR_inv h (fun hz => arithR_i hb.1 hz) h0
    · simp [RM.ab] at h0
  rename_i h1
  rw [if_neg h1]
  split at h0
  · rename_i h2
    rw [if_pos h2]
    split at h0
    · rename_i h3; rw [if_pos h3]; exact ⟨h, rng_vB _⟩
    · simp [RM.ab] at h0
  rename_i h2
  rw [if_neg h2]
  split at h0
  · rename_i h3
    rw [if_pos h3]
    split at h0
    · rename_i h4; rw [if_pos h4]; exact ⟨h, rng_vB _⟩
    · simp [RM.ab] at h0
  rename_i h3
  rw [if_neg h3]
  split at h0
  · rename_i h4
    rw [if_pos h4]
    split at h0
    · rename_i h5
      rw [if_pos h5]
      split at h0
      · simp [RM.ab] at h0
      · rename_i h6
        rw [if_neg h6]
        refine ⟨h, ⟨by simp [vS], by simp [vS]⟩, ?_⟩
        have h7 : W64 ((a.s.size : Int) + b.s.size) = (a.s.size : Int) + b.s.size := W64_id (by omega) (by have := ha.2; have := hb.2; omega)
        rw [h7] at h6
        simp only [vS, ByteArray.size_append]
        omega
    · simp [RM.ab] at h0
  rename_i h4
  rw [if_neg h4]
  split at h0
  · rename_i h5; rw [if_pos h5]; exact ⟨h, rng_vB _⟩
  · simp [RM.ab] at h0
theorem oneR_inv (hf : ∀ n, i64 n → plainS (C.fmt n) = true) {r p : Nat} {m : RM} (h : RInv (r + 1) p m) {op : Int} {a : V} (ha : rngV a) (h0 : (oneR C m op a).2.st = 0) : RInv r p (oneR C m op a).2 ∧ rngV (oneR C m op a).1 := by
  have h' := h.mono (show r ≤ r + 1 by omega) (Nat.le_refl p)
  unfold oneR at h0 ⊢
  split at h0
  · simp [RM.ab] at h0
  rename_i h1
  rw [if_neg h1]
  split at h0
  · rename_i h2
    rw [if_pos h2]
    exact calcR_inv h' (fun _ => i64_neg _) h0
  rename_i h2
  rw [if_neg h2]
  split at h0
  · rename_i h3; rw [if_pos h3]; exact ⟨h', rng_vB _⟩
  rename_i h3
  rw [if_neg h3]
  split at h0
  · rename_i h4
    rw [if_pos h4]
    have hp := hf _ ha.1
    unfold plainS at hp
    simp only [Bool.and_eq_true, decide_eq_true_eq] at hp
    exact ⟨h', ⟨by simp [vS], by simp [vS]⟩, by simp only [vS]; omega⟩
  rename_i h4
  rw [if_neg h4]
  split at h0
  · rename_i h5
    rw [if_pos h5]
    exact ⟨h', rng_vI ⟨by omega, by have := ha.2; omega⟩⟩
  rename_i h5
  rw [if_neg h5]
  simp only at h0 ⊢
  split at h0
  · rename_i h6; exact absurd h0 h6
  rename_i h6
  rw [if_neg h6]
  have hF := fetchR_inv hC h a.s (by simpa using h6)
  split at h0
  · rename_i h7; rw [if_pos h7]; exact ⟨hF.1, rng_vB _⟩
  rename_i h7
  rw [if_neg h7]
  split at h0
  · rename_i h8; rw [if_pos h8]; exact ⟨hF.1, ⟨by simp, by simp⟩, by simp [em]⟩
  rename_i h8
  rw [if_neg h8]
  by_cases h9 : (fetchR C m a.s).1.k ≠ (if op = 23 then 2 else 1)
  · rw [if_pos h9] at h0; simp [RM.ab] at h0
  · rw [if_neg h9]
    exact hF
theorem opR_inv (hf : ∀ n, i64 n → plainS (C.fmt n) = true) {r p : Nat} {m : RM} (h : RInv (r + 1) p m) {op : Int} {l : List V} (hl : ∀ v ∈ l, rngV v) (h0 : (opR C m op l).2.st = 0) : RInv r p (opR C m op l).2 ∧ rngV (opR C m op l).1 := by
  unfold opR at h0 ⊢
  split at h0
  · exact oneR_inv hC hf h (hl _ (by simp)) h0
  · exact twoR_inv hC (h.mono (by omega) (Nat.le_refl _)) (hl _ (by simp)) (hl _ (by simp)) h0
  · simp [RM.ab] at h0
mutual
theorem evR_inv (hf : ∀ n, i64 n → plainS (C.fmt n) = true) : ∀ (e : Ex) (m : RM) (r p : Nat), rngX e → RInv (r + nodes e) p m → m.st = 0 → (evR C e m).2.st = 0 → RInv r p (evR C e m).2 ∧ rngV (evR C e m).1
  | .mk op n s args, m, r, p, hX, h, hm, h0 => by
    have hX' := (rngX_iff _).1 hX
    simp only [Ex.n, Ex.s, Ex.args] at hX'
    have hn : nodes (.mk op n s args) = nodesL args + 1 := nodes_eq _
    rw [hn] at h
    have h' := h.mono (show r ≤ r + (nodesL args + 1) by omega) (Nat.le_refl p)
    rw [evR] at h0 ⊢
    split at h0
    · rename_i h1; rw [if_pos h1]; exact ⟨h', rng_vI hX'.1.1⟩
    rename_i h1
    rw [if_neg h1]
    split at h0
    · rename_i h2; rw [if_pos h2]; exact ⟨h', ⟨by simp [vS], by simp [vS]⟩, hX'.1.2⟩
    rename_i h2
    rw [if_neg h2]
    split at h0
    · rename_i h3
      rw [if_pos h3]
      split at h0
      · rename_i h4; rw [if_pos h4]; exact ⟨h', rng_getP h.vr s⟩
      · simp [RM.ab] at h0
    rename_i h3
    rw [if_neg h3]
    simp only at h0 ⊢
    split at h0
    · rename_i h4; exact absurd h0 h4
    rename_i h4
    rw [if_neg h4]
    have hL := evRL_inv hf args m (r + 1) p hX'.2 (h.mono (by omega) (Nat.le_refl _)) hm (by simpa using h4)
    exact opR_inv hC hf hL.1 hL.2 h0
theorem evRL_inv (hf : ∀ n, i64 n → plainS (C.fmt n) = true) : ∀ (l : List Ex) (m : RM) (r p : Nat), (∀ x ∈ l, rngX x) → RInv (r + nodesL l) p m → m.st = 0 → (evRL C l m).2.st = 0 → RInv r p (evRL C l m).2 ∧ ∀ v ∈ (evRL C l m).1, rngV v
  | [], m, r, p, hX, h, hm, h0 => by rw [evRL]; exact ⟨h.mono (by omega) (Nat.le_refl _), by simp⟩
  | e :: l, m, r, p, hX, h, hm, h0 => by
    rw [nodesL_cons] at h
    rw [evRL] at h0 ⊢
    simp only at h0 ⊢
    split at h0
    · rename_i h1; exact absurd h0 h1
    rename_i h1
    rw [if_neg h1]
    have hE := evR_inv hf e m (r + nodesL l) p (hX e (by simp)) (h.mono (by omega) (Nat.le_refl _)) hm (by simpa using h1)
    have hL := evRL_inv hf l _ r p (fun x hx => hX x (by simp [hx])) hE.1 (by simpa using h1) h0
    refine ⟨hL.1, fun v hv => ?_⟩
    rcases List.mem_cons.1 hv with rfl | hv
    · exact hE.2
    · exact hL.2 v hv
end
end
theorem tickR_inv {m : RM} (h : RInv 0 0 m) (h0 : (tickR m).st = 0) : RInv 8192 1 (tickR m) := by
  have e : W64 (m.steps + 1) = m.steps + 1 := W64_id (by have := h.s0; omega) (by have := h.s1; omega)
  unfold tickR at h0 ⊢
  rw [e] at h0 ⊢
  split at h0
  · simp [RM.ab] at h0
  rename_i h1
  rw [if_neg h1]
  refine ⟨h.vr, h.wr, by have := h.s0; simp only; omega, by simp only; omega, ?_, ?_, ?_, ?_, h.ot⟩
  · have := h.rd; simp only; omega
  · have := h.pt; simp only; omega
  · have := h.ow; simp only; omega
  · have := h.va; simp only; omega
theorem RInv.var {r p : Nat} {m : RM} (h : RInv r (p + 1) m) {v : V} (hv : rngV v) (k : Bytes) : RInv r p { m with vars := setR m.vars ⟨k, v⟩ } := by
  refine ⟨fun q hq => ?_, h.wr, h.s0, h.s1, h.rd, by have := h.pt; simp only; omega, by have := h.ow; simp only; omega, ?_, h.ot⟩
  · rcases setR_mem hq with rfl | hq
    · exact hv
    · exact h.vr q hq
  · have := setR_len m.vars ⟨k, v⟩
    have := h.va
    simp only
    omega
theorem RInv.store {C : Cfg} {r p : Nat} {m : RM} (h : RInv r (p + 1) m) {v : V} (hv : rngV v) (k : Bytes) (h0 : (storeR C m k v).st = 0) : RInv r p (storeR C m k v) := by
  unfold storeR at h0 ⊢
  split at h0
  · simp [RM.ab] at h0
  rename_i h1
  rw [if_neg h1]
  split at h0
  · simp [RM.rst] at h0
  rename_i h2
  rw [if_neg h2]
  refine ⟨h.vr, fun q hq => ?_, h.s0, h.s1, h.rd, ?_, ?_, by have := h.va; simp only; omega, h.ot⟩
  · rcases setR_mem hq with rfl | hq
    · exact hv
    · exact h.wr q hq
  · have := withS_len m.puts k
    have := h.pt
    simp only
    omega
  · have := setR_len m.own ⟨k, v⟩
    have := h.ow
    simp only
    omega
theorem RInv.emit {r p : Nat} {m : RM} (h : RInv r p m) {v : V} (h0 : (emitR m v).st = 0) : RInv r p (emitR m v) := by
  unfold emitR at h0 ⊢
  split at h0
  · simp [RM.ab] at h0
  rename_i h1
  rw [if_neg h1]
  refine ⟨h.vr, h.wr, h.s0, h.s1, h.rd, h.pt, h.ow, h.va, ?_⟩
  simp only [List.length_append, List.length_singleton]
  omega
theorem loopR_inv {body : RM → RM} {name : Bytes} {b : Int} (hb : i64 b) (hB : ∀ m, RInv 0 0 m → m.st = 0 → (body m).st = 0 → RInv 0 0 (body m)) : ∀ (f : Nat) (i : Int) (m : RM), i64 i → RInv 0 0 m → m.st = 0 → (loopR body name b f i m).st = 0 → RInv 0 0 (loopR body name b f i m)
  | 0, i, m, hi, h, hm, h0 => by rw [loopR]; exact h
  | f + 1, i, m, hi, h, hm, h0 => by
    rw [loopR] at h0 ⊢
    by_cases h1 : i < b ∧ m.st = 0
    · rw [if_pos h1] at h0 ⊢
      have hw : W64 (i + 1) = i + 1 := W64_id (by have := hi.1; omega) (by have := hb.2; omega)
      by_cases h2 : (tickR m).st = 0
      · rw [if_pos h2] at h0 ⊢
        have ht := (tickR_inv h h2).var (p := 0) (rng_vI hi) name
        by_cases h3 : (body { tickR m with vars := setR (tickR m).vars ⟨name, vI i⟩ }).st = 0
        · exact loopR_inv hb hB f _ _ (by rw [hw]; exact ⟨by have := hi.1; omega, by have := hb.2; omega⟩) (hB _ (ht.mono (by omega) (Nat.le_refl _)) h2 h3) h3 h0
        · rw [loopR_dead f _ h3] at h0
          exact absurd h0 h3
      · rw [if_neg h2, loopR_dead f _ h2] at h0
        exact absurd h0 h2
    · rw [if_neg h1] at h0 ⊢
      exact h
section
variable {C : Cfg} (hC : rngC C) (hf : ∀ n, i64 n → plainS (C.fmt n) = true)
include hC hf
mutual
theorem stR_inv : ∀ (t : St) (d : Nat) (m : RM), okS t d → goS t → RInv 8192 1 m → m.st = 0 → (stR C t m).st = 0 → RInv 0 0 (stR C t m)
  | .mk op name mx a b body els, d, m, hok, hg, h, hm, h0 => by
    have hok' := (okS_iff _ _).1 hok
    have hg' := (goS_iff _).1 hg
    have hop := okS_op hok
    simp only [St.op, St.a, St.b, St.body, St.els] at hok' hg' hop
    rw [stR] at h0 ⊢
    split at h0
    · simp [RM.ab] at h0
    rename_i h8
    rw [if_neg h8]
    split at h0
    · rename_i h1; exact absurd h0 h1
    rename_i h1
    rw [if_neg h1]
    have hA := evR_inv hC hf a m 4097 1 (hg'.1 h8).1 (h.mono (by have := (hg'.1 h8).2; omega) (Nat.le_refl _)) hm (by simpa using h1)
    have hA0 := hA.1.mono (Nat.zero_le _) (Nat.zero_le _)
    split at h0
    · rename_i h2; rw [if_pos h2]; exact (hA.1.var hA.2 name).mono (Nat.zero_le _) (Nat.le_refl _)
    rename_i h2
    rw [if_neg h2]
    split at h0
    · rename_i h3; rw [if_pos h3]; exact (hA.1.store rng_nil _ h0).mono (Nat.zero_le _) (Nat.le_refl _)
    rename_i h3
    rw [if_neg h3]
    split at h0
    · rename_i h4; rw [if_pos h4]; exact hA0.emit h0
    rename_i h4
    rw [if_neg h4]
    split at h0
    · rename_i h5
      rw [if_pos h5]
      split at h0
      · rename_i h6; rw [if_pos h6]; exact blkR_inv body (d + 1) _ hok'.2.1 hg'.2.2.1 hA0 (by simpa using h1) h0
      · rename_i h6; rw [if_neg h6]; exact blkR_inv els (d + 1) _ hok'.2.2 hg'.2.2.2 hA0 (by simpa using h1) h0
    rename_i h5
    rw [if_neg h5]
    have hgb := hg'.2.1 (by omega)
    split at h0
    · rename_i h6; exact absurd h0 h6
    rename_i h6
    rw [if_neg h6]
    have hB := evR_inv hC hf b _ 0 1 hgb.1 (hA.1.mono (by have := hgb.2; omega) (Nat.le_refl _)) (by simpa using h1) (by simpa using h6)
    split at h0
    · rename_i h7; rw [if_pos h7]; exact (hB.1.store hB.2 _ h0).mono (Nat.zero_le _) (Nat.le_refl _)
    rename_i h7
    rw [if_neg h7]
    split at h0
    · simp [RM.ab] at h0
    rename_i h9
    rw [if_neg h9]
    exact loopR_inv hB.2.1 (fun m hm h1 h2 => blkR_inv body (d + 1) m hok'.2.1 hg'.2.2.1 hm h1 h2) _ _ _ hA.2.1 (hB.1.mono (Nat.zero_le _) (Nat.zero_le _)) (by simpa using h6) h0
theorem blkR_inv : ∀ (l : List St) (d : Nat) (m : RM), okL l d → (∀ x ∈ l, goS x) → RInv 0 0 m → m.st = 0 → (blkR C l m).st = 0 → RInv 0 0 (blkR C l m)
  | [], d, m, hok, hg, h, hm, h0 => by rw [blkR]; exact h
  | t :: l, d, m, hok, hg, h, hm, h0 => by
    rw [blkR, if_neg (by simp [hm])] at h0 ⊢
    by_cases h2 : (tickR m).st = 0
    · rw [if_pos h2] at h0 ⊢
      have hT := tickR_inv h h2
      by_cases h3 : (stR C t (tickR m)).st = 0
      · exact blkR_inv l d _ (fun x hx => hok x (by simp [hx])) (fun x hx => hg x (by simp [hx])) (stR_inv t d _ (hok t (by simp)) (hg t (by simp)) hT h2 h3) h3 h0
      · rw [blkR_dead C l h3] at h0
        exact absurd h0 h3
    · rw [if_neg h2, blkR_dead C l h2] at h0
      exact absurd h0 h2
end
end
theorem setArgsR_inv : ∀ (ps : List Param) (vs : List V) (l : List Pr), (∀ v ∈ vs, rngV v) → (∀ q ∈ l, rngV q.v) → (∀ q ∈ setArgsR ps vs l, rngV q.v) ∧ (setArgsR ps vs l).length ≤ l.length + ps.length
  | [], vs, l, hv, h => by cases vs <;> exact ⟨h, by simp [setArgsR]⟩
  | x :: ps, [], l, hv, h => by refine ⟨by simpa [setArgsR] using h, by simp [setArgsR]⟩
  | x :: ps, v :: vs, l, hv, h => by
    rw [setArgsR]
    have ih := setArgsR_inv ps vs (setR l ⟨x.name, v⟩) (fun w hw => hv w (by simp [hw])) (fun q hq => by
      rcases setR_mem hq with rfl | hq
      · exact hv v (by simp)
      · exact h q hq)
    refine ⟨ih.1, ?_⟩
    have := setR_len l ⟨x.name, v⟩
    simp only [List.length_cons]
    have := ih.2
    omega
end Go.Cw

namespace Go.Cw
open Go Go.Abs
def firstV : List Pr → List (Bytes × V) → List (Bytes × V)
  | [], m => m
  | p :: l, m => firstV l (if (kGet m p.key).isSome = true then m else kSet m p.key p.v)
theorem firstV_get : ∀ (l : List Pr) (m : List (Bytes × V)) (k : Bytes), kGet (firstV l m) k = match kGet m k with | some v => some v | none => if hasP l k = true then some (getP l k) else none
  | [], m, k => by rw [firstV]; rcases kGet m k with _ | v <;> simp [hasP, anyL]
  | p :: l, m, k => by
    rw [firstV, firstV_get l]
    have hc : hasP (p :: l) k = (decide (p.key = k) || hasP l k) := by simp [hasP, anyL]
    rw [hc, getP]
    rcases hp : kGet m p.key with _ | w
    · simp only [Option.isSome_none, Bool.false_eq_true, if_false]
      rw [kGet_set]
      by_cases hk : p.key = k
      · rw [if_pos hk]; subst hk; rw [hp]; simp
      · rw [if_neg hk]
        rcases kGet m k with _ | v <;> simp [hk]
    · simp only [Option.isSome_some, if_true]
      rcases hm : kGet m k with _ | v
      · have : p.key ≠ k := by rintro rfl; rw [hp] at hm; cases hm
        simp [this]
      · rfl
theorem firstV_all {P : V → Prop} : ∀ (l : List Pr) (m : List (Bytes × V)), (∀ q ∈ l, P q.v) → (∀ q ∈ m, P q.2) → ∀ q ∈ firstV l m, P q.2
  | [], m, _, h => by rw [firstV]; exact h
  | p :: l, m, hl, h => by
    rw [firstV]
    refine firstV_all l _ (fun q hq => hl q (by simp [hq])) ?_
    split
    · exact h
    · intro q hq
      rcases kSet_mem hq with rfl | hq
      · exact hl p (by simp)
      · exact h q hq
def varsOk (l : List Pr) : Bool := l.all fun q => varOk q.v.k q.v.n q.v.s
def evOk (e : Ex) (st : List Pr) (ft : Foot) : Prop := ¬ (chkE e 1 ≠ 0 ∨ stateOk st = false ∨ footOk ft.all ft.reads ft.writes = false)
instance (e : Ex) (st : List Pr) (ft : Foot) : Decidable (evOk e st ft) := inferInstanceAs (Decidable (¬ _))
abbrev msV (vars : List Pr) : MS := ⟨firstV vars [], [], [], [], [], 0⟩
abbrev rmV (vars : List Pr) : RM := ⟨vars, [], 0, 0, [], [], [], em, 0⟩
def endS : EV × MS → V × Eff
  | (.error z, s) => (V.nil, doneS (.error z, s))
  | (.ok v, s) => (v, doneS (.ok (), s))
def evalS (fmt : Int → Bytes) (e : Ex) (vars st : List Pr) (ft : Foot) : V × Eff :=
  if evOk e st ft ∧ varsOk vars = true then endS (evE (cfgR fmt st ft) e (msV vars)) else (V.nil, wrongE)
def evalR (fmt : Int → Bytes) (e : Ex) (vars st : List Pr) (ft : Foot) : V × Eff :=
  if evOk e st ft ∧ varsOk vars = true then (if (evR (cfgR fmt st ft) e (rmV vars)).2.st ≠ 0 then (V.nil, doneR (evR (cfgR fmt st ft) e (rmV vars)).2) else ((evR (cfgR fmt st ft) e (rmV vars)).1, doneR (evR (cfgR fmt st ft) e (rmV vars)).2)) else (V.nil, wrongE)
structure EvIn (fmt : Int → Bytes) (e : Ex) (vs st : List Pr) : Prop where
  fmt : ∀ n, i64 n → plainS (fmt n) = true
  ex : rngX e
  vars : ∀ q ∈ vs, rngV q.v
  st : ∀ q ∈ st, rngV q.v
  len : vs.length ≤ 34359738368
theorem evOk_iff {e : Ex} {st : List Pr} {ft : Foot} : evOk e st ft ↔ chkE e 1 = 0 ∧ stateOk st = true ∧ footOk ft.all ft.reads ft.writes = true := by
  unfold evOk
  simp only [not_or, Decidable.not_not, Bool.not_eq_false]
theorem evalR_eq {fmt : Int → Bytes} {e : Ex} {vars st : List Pr} {ft : Foot} (hI : EvIn fmt e vars st) : evalR fmt e vars st ft = evalS fmt e vars st ft := by
  unfold evalR evalS
  by_cases h : evOk e st ft ∧ varsOk vars = true
  · rw [if_pos h, if_pos h]
    obtain ⟨h1, h2⟩ := h
    have h1 := evOk_iff.1 h1
    have hv : ∀ q ∈ vars, okX q.v := fun q hq => by
      unfold varsOk at h2
      exact List.all_eq_true.1 h2 q hq
    have hVC : vC (cfgR fmt st ft) := ⟨fun q hq => (((stateOk_iff st).1 h1.2.1).1 q hq).1, hI.fmt⟩
    have hRC : rngC (cfgR fmt st ft) := fun q hq => hI.st q hq
    have hM : vM (msV vars) := ⟨firstV_all (P := okX) vars [] hv (by simp), by simp⟩
    have hr : rngM (msV vars) := ⟨firstV_all (P := rngV) vars [] hI.vars (by simp), by simp⟩
    have hs : Sim (msV vars) (rmV vars) := ⟨fun k => by
      rw [firstV_get]
      simp [kGet], fun k => by simp [kGet, hasK, anyL], rfl, rfl, rfl, rfl, rfl, rfl, rfl, rfl⟩
    have ha : ascS (msV vars).reads := by simp [ascS]
    have hS := sim_ev hVC hRC e 1 (msV vars) (rmV vars) h1.1 hI.ex hM hr ha hs
    have hE := (evE_ok hRC e (msV vars) hI.ex hr ha).1
    rcases hx : evE (cfgR fmt st ft) e (msV vars) with ⟨z | v, s⟩
    · rw [hx] at hS
      have hS : (evR (cfgR fmt st ft) e (rmV vars)).1 = V.nil ∧ Dead z s (evR (cfgR fmt st ft) e (rmV vars)).2 := hS
      have hD := hS.2
      have hne : (evR (cfgR fmt st ft) e (rmV vars)).2.st ≠ 0 := by rw [hD.st]; exact hD.ne
      rw [if_pos hne]
      unfold endS doneS doneR
      simp only
      rw [if_pos hne, hD.st, hD.code, hD.reads, hD.puts, hD.miss, hD.steps]
    · rw [hx] at hS hE
      have hS : (evR (cfgR fmt st ft) e (rmV vars)).1 = v ∧ Sim s (evR (cfgR fmt st ft) e (rmV vars)).2 := hS
      have h2 := hS.2
      rw [if_neg (by rw [h2.st]; simp), hS.1]
      have hp : s.puts = [] := by rw [hE.puts]
      have ho : (evR (cfgR fmt st ft) e (rmV vars)).2.own = [] := by
        have := h2.keys
        rw [hp] at this
        unfold keysP at this
        exact List.map_eq_nil_iff.1 this
      unfold endS doneS doneR
      simp only
      rw [if_neg (by rw [h2.st]; simp), h2.code, h2.out, h2.reads, h2.puts, h2.miss, h2.steps, ho, hp]
      rfl
  · rw [if_neg h, if_neg h]
end Go.Cw
