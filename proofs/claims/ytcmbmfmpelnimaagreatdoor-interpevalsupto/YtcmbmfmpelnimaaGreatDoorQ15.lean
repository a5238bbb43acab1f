/- Part 15 of a proof: CwY, CwZ, CwSa, CwSb -/
import Derived.Test.YtcmbmfmpelnimaaGreatDoorQ14
set_option linter.all false

namespace Go.Cw
open Go Go.Abs
theorem kGet_set {α : Type} : ∀ (l : List (Bytes × α)) (s k : Bytes) (v : α), kGet (kSet l s v) k = if s = k then some v else kGet l k
  | [], s, k, v => by simp only [kSet, kGet]
  | p :: l, s, k, v => by
    rw [kSet]
    split
    · rename_i h
      rw [kGet, kGet]
      subst h
      split <;> rfl
    · rename_i h
      rw [kGet, kGet_set l s k v, kGet]
      split
      · rename_i h2
        subst h2
        rw [if_neg (fun e => h e.symm)]
      · rfl
theorem cmpL_lt : ∀ (a b : List UInt8), (Go.Lib.compareBytes a b < 0 ↔ Op.bytesLess a b = true) ∧ (Go.Lib.compareBytes a b = 0 ↔ a = b)
  | [], [] => by simp [Go.Lib.compareBytes, Op.bytesLess]
  | [], _ :: _ => by simp [Go.Lib.compareBytes, Op.bytesLess]
  | _ :: _, [] => by simp [Go.Lib.compareBytes, Op.bytesLess]
  | x :: a, y :: b => by
    have ih := cmpL_lt a b
    simp only [Go.Lib.compareBytes, Op.bytesLess, List.cons.injEq]
    split
    · rename_i h
      have : x ≠ y := by rintro rfl; exact absurd h (by simp)
      simp [h, this]
    · rename_i h
      split
      · rename_i h2
        have : x ≠ y := by rintro rfl; exact absurd h2 (by simp)
        simp [h, this]
      · rename_i h2
        have : x = y := by
          apply UInt8.toNat_inj.1
          have h3 : ¬ x.toNat < y.toNat := h
          have h4 : ¬ y.toNat < x.toNat := h2
          omega
        subst this
        simp [ih]
theorem cmpS_lt (a b : Bytes) : (cmpS a b < 0 ↔ sLt a b = true) ∧ (cmpS a b = 0 ↔ a = b) := by
  have h := cmpL_lt a.data.toList b.data.toList
  have e : ∀ x : Bytes, x.toList = x.data.toList := fun x => by simp [ByteArray.toList_eq]
  refine ⟨?_, ?_⟩
  · unfold cmpS sLt
    rw [e, e]
    exact h.1
  · unfold cmpS
    rw [h.2]
    constructor
    · intro he
      have : a.data = b.data := Array.toList_inj.1 he
      cases a; cases b; simp_all
    · rintro rfl; rfl
theorem setR_cons {p q : Pr} {l : List Pr} (h : sLt q.key p.key = true) : setR (q :: l) p = q :: setR l p := by
  unfold setR restP
  simp only [posP, h, if_true, List.take_succ_cons, List.getElem?_cons_succ, List.cons_append]
  split <;> simp
theorem setR_map (l : List Pr) (p : Pr) (k : Bytes) : hasP (setR l p) k = (decide (p.key = k) || hasP l k) ∧ getP (setR l p) k = if p.key = k then p.v else getP l k := by
  induction l with
  | nil => simp [setR, restP, posP, hasP, anyL, getP]
  | cons q l ih =>
    by_cases h : sLt q.key p.key = true
    · rw [setR_cons h]
      have hne := sLt_ne h
      simp only [hasP, anyL, getP] at ih ⊢
      rw [ih.1, ih.2]
      refine ⟨?_, ?_⟩
      · rw [← Bool.or_assoc, ← Bool.or_assoc, Bool.or_comm (decide (q.key = k))]
      · by_cases h1 : q.key = k
        · have : ¬ p.key = k := fun e => hne (h1.trans e.symm)
          simp [h1, this]
        · simp [h1]
    · have e0 : posP p.key (q :: l) = 0 := by simp [posP, h]
      by_cases h1 : q.key = p.key
      · have : setR (q :: l) p = p :: l := by simp [setR, restP, e0, h1]
        rw [this]
        simp only [hasP, anyL, getP, h1]
        refine ⟨?_, ?_⟩
        · cases decide (p.key = k) <;> simp
        · split <;> rfl
      · have : setR (q :: l) p = p :: q :: l := by simp [setR, restP, e0, h1]
        rw [this]
        simp only [hasP, anyL, getP]
        exact ⟨trivial, trivial⟩
theorem setR_keys (l : List Pr) (p : Pr) : keysP (setR l p) = withS (keysP l) p.key := by
  have hp := posP_eq p.key l
  unfold setR withS restP
  rw [← hp]
  have hg : (keysP l)[posP p.key l]? = (l[posP p.key l]?).map Pr.key := by simp [keysP]
  rw [hg]
  split
  · rename_i h
    obtain ⟨q, hq, hk⟩ := Option.map_eq_some_iff.1 h
    obtain ⟨hlt, rfl⟩ := List.getElem?_eq_some_iff.1 hq
    have e : l = l.take (posP p.key l) ++ l[posP p.key l] :: l.drop (posP p.key l + 1) := by
      rw [List.getElem_cons_drop, List.take_append_drop]
    conv => rhs; rw [e]
    simp only [keysP, List.map_append, List.map_cons, hk]
  · simp [keysP]
structure Sim (s : MS) (m : RM) : Prop where
  vars : ∀ k, kGet s.vars k = if hasP m.vars k = true then some (getP m.vars k) else none
  own : ∀ k, kGet s.own k = if hasK s.puts k = true then some (getP m.own k) else none
  keys : keysP m.own = s.puts
  out : m.out = s.out
  reads : m.reads = s.reads
  puts : m.puts = s.puts
  steps : m.steps = s.steps
  st : m.st = 0
  code : m.code = 0
  miss : m.miss = em
structure Dead (z : Stop) (s : MS) (m : RM) : Prop where
  reads : m.reads = s.reads
  puts : m.puts = s.puts
  steps : m.steps = s.steps
  out : m.out = []
  st : m.st = z.status
  code : m.code = z.code
  miss : m.miss = z.miss
  ne : z.status ≠ 0
theorem Sim.ab {s : MS} {m : RM} (h : Sim s m) (c : Int) : Dead (ab c) s (m.ab c) := ⟨h.reads, h.puts, h.steps, rfl, rfl, rfl, h.miss, by simp [Go.Cw.ab]⟩
theorem Sim.rst {s : MS} {m : RM} (h : Sim s m) (k : Bytes) : Dead (rst k) s (m.rst k) := ⟨h.reads, h.puts, h.steps, rfl, rfl, rfl, rfl, by simp [Go.Cw.rst]⟩
def EvSim (x : EV × MS) (y : V × RM) : Prop := match x.1 with
  | .ok v => y.1 = v ∧ Sim x.2 y.2
  | .error z => y.1 = V.nil ∧ Dead z x.2 y.2
theorem EvSim.ok {v : V} {s : MS} {m : RM} (h : Sim s m) : EvSim (.ok v, s) (v, m) := ⟨rfl, h⟩
theorem EvSim.ab {c : Int} {s : MS} {m : RM} (h : Sim s m) : EvSim (.error (ab c), s) (V.nil, m.ab c) := ⟨rfl, h.ab c⟩
theorem hasK_with (l : List Bytes) (k x : Bytes) : hasK (withS l k) x = (decide (k = x) || hasK l x) := by
  have h : ∀ a : Bool, ∀ P : Prop, (a = true ↔ P) → ∀ b : Bool, (b = true ↔ P) → a = b := by
    intro a P h b g
    cases a <;> cases b <;> simp_all
  refine h _ (x = k ∨ x ∈ l) (hasK_iff.trans withS_mem) _ ?_
  simp only [Bool.or_eq_true, decide_eq_true_eq, hasK_iff]
  constructor <;> (rintro (rfl | h) <;> simp_all)
section
variable {C : Cfg}
theorem sim_fetch {s : MS} {m : RM} (h : Sim s m) (k : Bytes) : EvSim (fetchS C k s) (fetchR C m k) := by
  unfold fetchS fetchR
  split
  · exact .ab h
  have ho := h.own k
  rw [h.puts]
  by_cases hp : hasK s.puts k = true
  · rw [if_pos hp] at ho
    rw [ho, if_pos hp]
    exact .ok h
  · rw [if_neg hp] at ho
    rw [ho, if_neg hp]
    simp only
    split
    · exact ⟨rfl, h.rst k⟩
    · exact ⟨rfl, ⟨h.vars, h.own, h.keys, h.out, by simp only [h.reads], rfl, h.steps, h.st, h.code, h.miss⟩⟩
def StSim (x : Except Stop Unit × MS) (m : RM) : Prop := match x.1 with
  | .ok _ => Sim x.2 m
  | .error z => Dead z x.2 m
theorem sim_store {s : MS} {m : RM} (h : Sim s m) (k : Bytes) (v : V) : StSim (storeS C k v s) (storeR C m k v) := by
  unfold storeS storeR
  split
  · exact h.ab _
  split
  · exact h.rst k
  · refine ⟨h.vars, fun x => ?_, ?_, h.out, h.reads, by simp only [h.puts], h.steps, h.st, h.code, h.miss⟩
    · simp only
      rw [kGet_set, (setR_map _ _ _).2, hasK_with]
      by_cases hx : k = x
      · simp [hx]
      · simp [hx, h.own x]
    · simp only
      rw [setR_keys, h.keys]
theorem sim_emit {s : MS} {m : RM} (h : Sim s m) (hl : s.out.length ≤ 16) (v : V) : StSim (emitS v s) (emitR m v) := by
  unfold emitS emitR
  rw [h.out]
  by_cases hk : s.out.length = 16
  · rw [if_pos hk, if_pos (by omega)]
    exact h.ab _
  · rw [if_neg hk, if_neg (by omega)]
    exact ⟨h.vars, h.own, h.keys, by simp only, h.reads, h.puts, h.steps, h.st, h.code, h.miss⟩
theorem sim_tick {s : MS} {m : RM} (h : Sim s m) (hs : s.steps ≤ 16384) : StSim (tickS s) (tickR m) := by
  unfold tickS tickR
  have e : W64 (m.steps + 1) = (s.steps + 1 : Nat) := by rw [h.steps, W64_id (by omega) (by omega)]; simp
  rw [e]
  have h' : Sim { s with steps := s.steps + 1 } { m with steps := ((s.steps + 1 : Nat) : Int) } := ⟨h.vars, h.own, h.keys, h.out, h.reads, h.puts, rfl, h.st, h.code, h.miss⟩
  by_cases hk : 16384 < s.steps + 1
  · rw [if_pos hk, if_pos (by omega)]
    exact h'.ab 1008
  · rw [if_neg hk, if_neg (by omega)]
    exact h'
theorem sim_calc {s : MS} {m : RM} (h : Sim s m) (r : Int × Int) : EvSim (exactS r, s) (calcR m r) := by
  unfold exactS calcR
  by_cases h0 : r.2 = 0
  · rw [if_pos h0, if_neg (by omega), if_neg (by omega)]
    exact .ok h
  · rw [if_neg h0]
    by_cases h4 : r.2 = 4
    · rw [if_pos h4, if_pos h4]; exact .ab h
    · rw [if_neg h4, if_neg h4, if_pos h0]; exact .ab h
theorem okX_1 {v : V} (h : okX v) (hk : v.k = 1) : v.s = em := by
  unfold okX varOk valOk at h
  simpa [hk] using h
theorem okX_2 {v : V} (h : okX v) (hk : v.k = 2) : v.n = 0 ∧ (v.s.size : Int) ≤ 64 := by
  have := okX_plain h hk
  unfold plainS at this
  unfold okX varOk valOk at h
  simp [hk] at h
  simp only [Bool.and_eq_true, decide_eq_true_eq] at this
  exact ⟨h.1, this.2⟩
theorem okX_3 {v : V} (h : okX v) (hk : v.k = 3) : v.s = em ∧ (v.n = 0 ∨ v.n = 1) := by
  unfold okX varOk at h
  simp [hk] at h
  exact ⟨h.2, h.1⟩
theorem eqVal_iff (a b : V) : eqVal a b = true ↔ a.k = b.k ∧ a.n = b.n ∧ a.s = b.s := by
  simp [eqVal]
theorem cmpBy_sign {op c d : Int} (h1 : c < 0 ↔ d < 0) (h2 : c = 0 ↔ d = 0) : cmpBy op c = cmpBy op d := by
  unfold cmpBy
  have h3 : 0 < c ↔ 0 < d := by omega
  have h4 : c ≤ 0 ↔ d ≤ 0 := by omega
  have h5 : 0 ≤ c ↔ 0 ≤ d := by omega
  simp only [h1, h2, h3, h4, h5]
theorem cmp_sign {a b : V} (ha : okX a) (hb : okX b) (hk : a.k = b.k) (h : a.k = 1 ∨ a.k = 2 ∨ a.k = 3) : (cmpV a b < 0 ↔ cmpR a b < 0) ∧ (cmpV a b = 0 ↔ cmpR a b = 0) := by
  have hc := cmpS_lt a.s b.s
  have hee := cmpS_lt em em
  have hirr := sLt_irrefl em
  have key : (a.s = b.s ∧ a.s = em) ∨ a.n = b.n := by
    rcases h with h | h | h
    · exact .inl ⟨by rw [okX_1 ha h, okX_1 hb (by omega)], okX_1 ha h⟩
    · exact .inr (by rw [(okX_2 ha h).1, (okX_2 hb (by omega)).1])
    · exact .inl ⟨by rw [(okX_3 ha h).1, (okX_3 hb (by omega)).1], (okX_3 ha h).1⟩
  have e1 := eqVal_iff a b
  unfold cmpV cmpR cmpI
  rw [if_neg (by omega)]
  rcases key with ⟨k1, k2⟩ | k
  · have hl : sLt a.s b.s = false := by rw [← k1, sLt_irrefl]
    have h0 : cmpS a.s b.s = 0 := hc.2.2 k1
    rw [hl, h0]
    by_cases hn : a.n = b.n
    · have : eqVal a b = true := e1.2 ⟨hk, hn, k1⟩
      simp [hn, this]
    · have : ¬ eqVal a b = true := fun h => hn (e1.1 h).2.1
      simp only [hn, if_false, this]
      by_cases h1 : a.n < b.n
      · simp [h1]
      · have h2 : b.n < a.n := by omega
        simp [h1, h2]
  · rw [if_pos k]
    by_cases hl : sLt a.s b.s = true
    · have h1 := hc.1.2 hl
      simp only [hl, or_true, if_true]
      have h2 : ¬ cmpS a.s b.s = 0 := by omega
      simp [h1, h2]
    · have h1 : ¬ cmpS a.s b.s < 0 := fun h => hl (hc.1.1 h)
      have h2 : ¬ a.n < b.n := by omega
      simp only [hl, or_false]
      by_cases he : a.s = b.s
      · have h3 := hc.2.2 he
        have : eqVal a b = true := e1.2 ⟨hk, k, he⟩
        simp [this, h3, h2]
      · have h3 : ¬ cmpS a.s b.s = 0 := fun h => he (hc.2.1 h)
        have : ¬ eqVal a b = true := fun h => he (e1.1 h).2.2
        rw [if_neg (by simp [h2]), if_neg this]
        exact ⟨⟨fun h => (h1 h).elim, fun h => by omega⟩, ⟨fun h => (h3 h).elim, fun h => by omega⟩⟩
theorem sim_two {s : MS} {m : RM} (h : Sim s m) {op : Int} {a b : V} (ha : okX a) (hb : okX b) (hop : (4 ≤ op ∧ op ≤ 8) ∨ (10 ≤ op ∧ op ≤ 17) ∨ op = 19) : EvSim (binS op a b, s) (twoR m op a b) := by
  unfold binS twoR
  by_cases h1 : op = 4 ∨ op = 5 ∨ op = 6 ∨ op = 7 ∨ op = 8
  · rw [if_pos h1, if_pos h1]
    by_cases hk : a.k = 1 ∧ b.k = 1
    · rw [if_pos hk, if_pos hk]
      unfold arithS arithR
      repeat' split
      all_goals exact sim_calc h _
    · rw [if_neg hk, if_neg hk]; exact .ab h
  rw [if_neg h1, if_neg h1]
  by_cases h2 : op = 16
  · rw [if_pos h2, if_pos h2]
    split
    · exact .ok h
    · exact .ab h
  rw [if_neg h2, if_neg h2]
  by_cases h3 : op = 17
  · rw [if_pos h3, if_pos h3]
    split
    · exact .ok h
    · exact .ab h
  rw [if_neg h3, if_neg h3]
  by_cases h4 : op = 19
  · rw [if_pos h4, if_pos h4]
    by_cases hk : a.k = 2 ∧ b.k = 2
    · rw [if_pos hk, if_pos hk]
      unfold textS
      have l1 := (okX_2 ha hk.1).2
      have l2 := (okX_2 hb hk.2).2
      have e : W64 (a.s.size + b.s.size : Int) = ((a.s ++ b.s).size : Int) := by
        rw [ByteArray.size_append, W64_id (by omega) (by omega)]; simp
      rw [e]
      split
      · exact .ab h
      · exact .ok h
    · rw [if_neg hk, if_neg hk]; exact .ab h
  rw [if_neg h4, if_neg h4]
  unfold compS
  by_cases hk : a.k = b.k ∧ (a.k = 1 ∨ a.k = 2 ∨ (a.k = 3 ∧ op ≤ 11))
  · rw [if_pos hk, if_pos (by omega)]
    have hc := cmp_sign ha hb hk.1 (by omega)
    rw [cmpBy_sign hc.1 hc.2]
    exact .ok h
  · rw [if_neg hk, if_neg (by omega)]; exact .ab h
end
end Go.Cw

namespace Go.Cw
open Go Go.Abs
section
variable {C : Cfg}
theorem EvSim.okI {x : EV} {v w : V} {s : MS} {m : RM} (h : Sim s m) (hx : x = .ok v) (hw : w = v) : EvSim (x, s) (w, m) := by subst hx hw; exact ⟨rfl, h⟩
theorem sim_got {s' : MS} {m' : RM} (h : Sim s' m') (op : Int) (v : V) (hop : op = 22 ∨ op = 23 ∨ op = 24) :
    EvSim (gotS op v, s') (if op = 24 then (vB (!decide (v.k = 0)), m') else if v.k = 0 then (⟨if op = 23 then 2 else 1, 0, em⟩, m') else if v.k ≠ (if op = 23 then 2 else 1) then (V.nil, m'.ab 1003) else (v, m')) := by
  rcases hop with rfl | rfl | rfl
  · by_cases h0 : v.k = 0
    · simp only [gotS, h0]
      exact .okI h rfl rfl
    · by_cases h1 : v.k = 1
      · simp only [gotS, h1]
        exact .okI h rfl rfl
      · simp [gotS, h0, h1]
        exact .ab h
  · by_cases h0 : v.k = 0
    · simp only [gotS, h0]
      exact .okI h rfl rfl
    · by_cases h1 : v.k = 2
      · simp only [gotS, h1]
        exact .okI h rfl rfl
      · simp [gotS, h0, h1]
        exact .ab h
  · simp only [gotS]
    exact .okI h rfl rfl
theorem sim_one {s : MS} {m : RM} (h : Sim s m) {op : Int} {a : V} (ha : okX a) (hr : rngV a) (hf : ∀ n, i64 n → plainS (C.fmt n) = true) (hop : op = 9 ∨ op = 18 ∨ op = 20 ∨ op = 21 ∨ op = 22 ∨ op = 23 ∨ op = 24) : EvSim (unS C op a s) (oneR C m op a) := by
  have hfe : a.k = 2 → (op = 22 ∨ op = 23 ∨ op = 24) → EvSim (unS C op a s) (oneR C m op a) := by
    intro hk ho
    have hf := sim_fetch (C := C) h a.s
    have hw : wantR op = 2 := by rcases ho with rfl | rfl | rfl <;> rfl
    have e1 : unS C op a s = match fetchS C a.s s with
      | (.error z, m') => (.error z, m')
      | (.ok v, m') => (gotS op v, m') := by
      unfold unS
      rw [if_neg (by omega), if_neg (by omega), if_neg (by omega), if_neg (by omega), if_neg (by simp [hk])]
      rfl
    have e2 : oneR C m op a = if (fetchR C m a.s).2.st ≠ 0 then (V.nil, (fetchR C m a.s).2) else if op = 24 then (vB (!decide ((fetchR C m a.s).1.k = 0)), (fetchR C m a.s).2) else if (fetchR C m a.s).1.k = 0 then (⟨if op = 23 then 2 else 1, 0, em⟩, (fetchR C m a.s).2) else if (fetchR C m a.s).1.k ≠ (if op = 23 then 2 else 1) then (V.nil, (fetchR C m a.s).2.ab 1003) else ((fetchR C m a.s).1, (fetchR C m a.s).2) := by
      unfold oneR
      rw [if_neg (by rw [hw]; simp [hk]), if_neg (by omega), if_neg (by omega), if_neg (by omega), if_neg (by omega)]
    rw [e1, e2]
    rcases hx : fetchS C a.s s with ⟨z | v, s'⟩ <;> rw [hx] at hf
    · have hf : (fetchR C m a.s).1 = V.nil ∧ Dead z s' (fetchR C m a.s).2 := hf
      rw [if_pos (by rw [hf.2.st]; exact hf.2.ne)]
      exact ⟨rfl, hf.2⟩
    · have hf : (fetchR C m a.s).1 = v ∧ Sim s' (fetchR C m a.s).2 := hf
      rw [if_neg (by rw [hf.2.st]; simp), hf.1]
      exact sim_got hf.2 op v ho
  rcases hop with rfl | rfl | rfl | rfl | ho
  · by_cases hk : a.k = 1
    · simpa [unS, oneR, wantR, hk] using sim_calc h (numNeg a.n)
    · simpa [unS, oneR, wantR, hk] using (EvSim.ab (c := 1009) h)
  · by_cases hk : a.k = 3
    · simpa [unS, oneR, wantR, hk] using (EvSim.ok (v := vB (decide (a.n = 0))) h)
    · simpa [unS, oneR, wantR, hk] using (EvSim.ab (c := 1009) h)
  · by_cases hk : a.k = 1
    · have hp := hf _ hr.1
      unfold plainS at hp
      simp only [Bool.and_eq_true, decide_eq_true_eq] at hp
      have ht : textS (C.fmt a.n) = .ok (vS (C.fmt a.n)) := by unfold textS; rw [if_neg (by omega)]
      simpa [unS, oneR, wantR, hk, ht] using (EvSim.ok (v := vS (C.fmt a.n)) h)
    · simpa [unS, oneR, wantR, hk] using (EvSim.ab (c := 1009) h)
  · by_cases hk : a.k = 2
    · simpa [unS, oneR, wantR, hk] using (EvSim.ok (v := vI a.s.size) h)
    · simpa [unS, oneR, wantR, hk] using (EvSim.ab (c := 1009) h)
  · by_cases hk : a.k = 2
    · exact hfe hk ho
    · have e1 : unS C op a s = (.error (ab 1009), s) := by
        unfold unS
        rw [if_neg (by omega), if_neg (by omega), if_neg (by omega), if_neg (by omega), if_pos (by simp [hk])]
      have hw : wantR op = 2 := by rcases ho with rfl | rfl | rfl <;> rfl
      have e2 : oneR C m op a = (V.nil, m.ab 1009) := by
        unfold oneR
        rw [if_pos (by rw [hw]; simp [hk])]
      rw [e1, e2]
      exact .ab h
theorem sim_op {s : MS} {m : RM} (h : Sim s m) {op : Int} {l : List V} (hl : ∀ v ∈ l, okX v) (hr : ∀ v ∈ l, rngV v) (hf : ∀ n, i64 n → plainS (C.fmt n) = true) (har : (l.length : Int) = arity op) : EvSim (opS C op l s) (opR C m op l) := by
  match l with
  | [] => exact .ab h
  | [a] =>
    refine sim_one h (hl a (by simp)) (hr a (by simp)) hf ?_
    unfold arity at har
    simp at har
    split at har
    · omega
    split at har
    · omega
    split at har
    · omega
    · omega
  | [a, b] =>
    refine sim_two h (hl a (by simp)) (hl b (by simp)) ?_
    unfold arity at har
    simp at har
    split at har
    · omega
    split at har
    · omega
    split at har
    · omega
    · omega
  | a :: b :: c :: r => exact .ab h
section
variable (hV : vC C) (hC : rngC C)
include hV hC
mutual
theorem sim_ev : ∀ (e : Ex) (d : Nat) (s : MS) (m : RM), chkE e d = 0 → rngX e → vM s → rngM s → ascS s.reads → Sim s m → EvSim (evE C e s) (evR C e m)
  | .mk op n x args, d, s, m, hc, hR, hM, hr, ha, h => by
    have har := chkE_arity hc
    have hR' := (rngX_iff _).1 hR
    simp only [Ex.args, Ex.op, Ex.n, Ex.s] at har hR'
    rw [chkE] at hc
    by_cases hn : nodeErr op n x args.length d = 0
    · rw [if_pos hn] at hc
      rw [evE, evR]
      by_cases h1 : op = 1
      · rw [if_pos h1, if_pos h1]; exact .ok h
      rw [if_neg h1, if_neg h1]
      by_cases h2 : op = 2
      · rw [if_pos h2, if_pos h2]; exact .ok h
      rw [if_neg h2, if_neg h2]
      by_cases h3 : op = 3
      · rw [if_pos h3, if_pos h3]
        have hv := h.vars x
        by_cases hp : hasP m.vars x = true
        · rw [if_pos hp] at hv
          rw [hv, if_pos hp]
          exact .ok h
        · rw [if_neg hp] at hv
          rw [hv, if_neg hp]
          exact .ab h
      rw [if_neg h3, if_neg h3]
      have hS := sim_evL args (d + 1) s m hc hR'.2 hM hr ha h
      have hE := evL_ok hC args s hR'.2 hr ha
      rcases hL : evL C args s with ⟨z | l, s'⟩
      · rw [hL] at hS
        have hS : Dead z s' (evRL C args m).2 := hS
        simp only
        rw [if_pos (by rw [hS.st]; exact hS.ne)]
        exact ⟨rfl, hS⟩
      · rw [hL] at hS hE
        have hS : (evRL C args m).1 = l ∧ Sim s' (evRL C args m).2 := hS
        simp only
        rw [if_neg (by rw [hS.2.st]; simp), hS.1]
        have hl := okX_evL hV hC args (d + 1) s s' l hc hR'.2 hM hr ha hL
        exact sim_op hS.2 hl (hE.2 l rfl) hV.fmt (by rw [evL_len hL]; exact har)
    · rw [if_neg hn] at hc
      exact (hn hc).elim
theorem sim_evL : ∀ (l : List Ex) (d : Nat) (s : MS) (m : RM), chkL l d = 0 → (∀ x ∈ l, rngX x) → vM s → rngM s → ascS s.reads → Sim s m →
    (match (evL C l s).1 with
      | .ok r => (evRL C l m).1 = r ∧ Sim (evL C l s).2 (evRL C l m).2
      | .error z => Dead z (evL C l s).2 (evRL C l m).2)
  | [], d, s, m, _, _, _, _, _, h => by rw [evL, evRL]; exact ⟨rfl, h⟩
  | e :: l, d, s, m, hc, hR, hM, hr, ha, h => by
    rw [chkL] at hc
    split at hc
    · rename_i h0
      have hE' := evE_ok hC e s (hR e (by simp)) hr ha
      have hS := sim_ev e d s m h0 (hR e (by simp)) hM hr ha h
      rw [evL, evRL]
      rcases hE : evE C e s with ⟨z | v, s'⟩
      · rw [hE] at hS
        have hS : (evR C e m).1 = V.nil ∧ Dead z s' (evR C e m).2 := hS
        simp only
        rw [if_pos (by rw [hS.2.st]; exact hS.2.ne)]
        exact hS.2
      · rw [hE] at hS hE'
        have hS : (evR C e m).1 = v ∧ Sim s' (evR C e m).2 := hS
        simp only
        rw [if_neg (by rw [hS.2.st]; simp)]
        have hT := sim_evL l d s' (evR C e m).2 hc (fun x hx => hR x (by simp [hx])) (vM_ev hE'.1 hM) (hE'.1.rng hr) hE'.1.asc hS.2
        rcases hL : evL C l s' with ⟨z | r, s''⟩
        · rw [hL] at hT
          exact hT
        · rw [hL] at hT
          have hT : (evRL C l (evR C e m).2).1 = r ∧ Sim s'' (evRL C l (evR C e m).2).2 := hT
          exact ⟨by rw [hS.1, hT.1], hT.2⟩
    · contradiction
end
end
end
end Go.Cw

namespace Go.Cw
open Go Go.Abs
abbrev Vis := List (Bytes × Int)
def subV (a b : Vis) : Prop := ∀ k ty, kGet a k = some ty → kGet b k = some ty
theorem subV.refl (a : Vis) : subV a a := fun _ _ h => h
theorem subV.trans {a b c : Vis} (h : subV a b) (g : subV b c) : subV a c := fun k ty e => g k ty (h k ty e)
def keysV {α : Type} (l : List (Bytes × α)) : List Bytes := l.map (·.1)
theorem kGet_none {α : Type} : ∀ {l : List (Bytes × α)} {k : Bytes}, kGet l k = none ↔ k ∉ keysV l
  | [], k => by simp [kGet, keysV]
  | p :: l, k => by
    have ih := kGet_none (l := l) (k := k)
    simp only [kGet, keysV, List.map_cons, List.mem_cons, not_or] at ih ⊢
    by_cases h : p.1 = k
    · simp [h]
    · rw [if_neg h, ih]
      exact ⟨fun g => ⟨fun e => h e.symm, g⟩, fun g => g.2⟩
theorem keysV_set {α : Type} : ∀ (l : List (Bytes × α)) (k : Bytes) (v : α) (x : Bytes), x ∈ keysV (kSet l k v) ↔ x = k ∨ x ∈ keysV l
  | [], k, v, x => by simp [kSet, keysV]
  | p :: l, k, v, x => by
    have ih := keysV_set l k v x
    rw [kSet]
    split
    · rename_i h
      subst h
      simp [keysV]
    · simp only [keysV, List.map_cons, List.mem_cons] at ih ⊢
      rw [ih]
      constructor
      · rintro (h | h | h) <;> simp [h]
      · rintro (h | h | h) <;> simp [h]
theorem nodV_set {α : Type} : ∀ (l : List (Bytes × α)) (k : Bytes) (v : α), (keysV l).Nodup → (keysV (kSet l k v)).Nodup
  | [], k, v, _ => by simp [kSet, keysV]
  | p :: l, k, v, h => by
    have h' : p.1 ∉ keysV l ∧ (keysV l).Nodup := List.nodup_cons.1 h
    rw [kSet]
    split
    · rename_i e
      subst e
      exact h
    · rename_i e
      refine List.nodup_cons.2 ⟨fun hm => ?_, nodV_set l k v h'.2⟩
      rcases (keysV_set l k v _).1 hm with e' | hm
      · exact e e'
      · exact h'.1 hm
theorem kDel_sub {α : Type} : ∀ (l : List (Bytes × α)) (k : Bytes), (kDel l k).Sublist l
  | [], _ => by simp [kDel]
  | p :: l, k => by
    rw [kDel]
    split
    · exact List.sublist_cons_self _ _
    · exact (kDel_sub l k).cons₂ _
theorem kGet_of_mem {α : Type} : ∀ {l : List (Bytes × α)} {k : Bytes} {v : α}, (keysV l).Nodup → (k, v) ∈ l → kGet l k = some v
  | p :: l, k, v, hd, h => by
    have hd' : p.1 ∉ keysV l ∧ (keysV l).Nodup := List.nodup_cons.1 hd
    rw [kGet]
    rcases List.mem_cons.1 h with rfl | h
    · simp
    · rw [if_neg]
      · exact kGet_of_mem hd'.2 h
      · intro e
        exact hd'.1 (List.mem_map.2 ⟨(k, v), h, e.symm⟩)
structure TOk (ts : TS) : Prop where
  nod : (keysV ts.visible).Nodup
  sub : subV ts.visible ts.all
theorem TOk.del {ts : TS} (h : TOk ts) (k : Bytes) : TOk ⟨kDel ts.visible k, ts.loops, ts.all⟩ := ⟨h.nod.sublist ((kDel_sub _ _).map _), fun x ty e => h.sub x ty (by
  have := (kDel_sub ts.visible k).subset (kGet_mem e)
  exact kGet_of_mem h.nod this)⟩
theorem TOk.dels (b : List (Bytes × Bool)) (a : Vis) : ∀ (l : List St) {vis : Vis}, TOk ⟨vis, b, a⟩ → TOk ⟨delLets l vis, b, a⟩
  | [], vis, h => h
  | t :: l, vis, h => by
    rw [delLets]
    refine TOk.dels b a l ?_
    split
    · exact h.del t.name
    · exact h
theorem TOk.set {ts : TS} (h : TOk ts) (k : Bytes) (ty : Int) (lp : List (Bytes × Bool)) : TOk ⟨kSet ts.visible k ty, lp, kSet ts.all k ty⟩ := ⟨nodV_set _ _ _ h.nod, fun x u e => by
  simp only at e ⊢
  rw [kGet_set] at e ⊢
  split at e
  · rename_i hk; rw [if_pos hk]; exact e
  · rename_i hk; rw [if_neg hk]; exact h.sub x u e⟩
mutual
def nmS : St → List Bytes
  | .mk op name _ _ _ body els => (if op = 1 ∨ op = 6 then [name] else []) ++ (nmL body ++ nmL els)
def nmL : List St → List Bytes
  | [] => []
  | t :: l => nmS t ++ nmL l
end
theorem nmS_eq (t : St) : nmS t = (if t.op = 1 ∨ t.op = 6 then [t.name] else []) ++ (nmL t.body ++ nmL t.els) := by cases t; rw [nmS]; rfl
structure TGo (ns : List Bytes) (ts ts' : TS) : Prop where
  ok : TOk ts'
  mono : subV ts.all ts'.all
  keys : ∀ k, k ∈ keysV ts'.all → k ∈ keysV ts.all ∨ k ∈ ns
theorem TGo.refl {ts : TS} (h : TOk ts) (ns : List Bytes) : TGo ns ts ts := ⟨h, .refl _, fun _ h => .inl h⟩
theorem TGo.mono' {ns ns' : List Bytes} {ts ts' : TS} (h : TGo ns ts ts') (hn : ∀ k ∈ ns, k ∈ ns') : TGo ns' ts ts' := ⟨h.ok, h.mono, fun k hk => (h.keys k hk).imp id (hn k)⟩
theorem TGo.trans {a b : List Bytes} {s t u : TS} (h : TGo a s t) (g : TGo b t u) : TGo (a ++ b) s u := ⟨g.ok, h.mono.trans g.mono, fun k hk => by
  rcases g.keys k hk with hk | hk
  · rcases h.keys k hk with hk | hk
    · exact .inl hk
    · exact .inr (by simp [hk])
  · exact .inr (by simp [hk])⟩
def fresh (ns : List Bytes) (ts : TS) : Prop := ns.Nodup ∧ ∀ k ∈ ns, k ∉ keysV ts.all
theorem TGo.set {ts : TS} (h : TOk ts) {k : Bytes} (hk : k ∉ keysV ts.all) (ty : Int) (lp : List (Bytes × Bool)) : TGo [k] ts ⟨kSet ts.visible k ty, lp, kSet ts.all k ty⟩ := ⟨h.set k ty lp, fun x u e => by
  simp only
  rw [kGet_set]
  split
  · rename_i hx
    subst hx
    rw [kGet_none.2 hk] at e; cases e
  · exact e, fun x hx => by
  rcases (keysV_set _ _ _ _).1 hx with h | h
  · exact .inr (by simp [h])
  · exact .inl h⟩
theorem fresh.left {a b : List Bytes} {ts : TS} (h : fresh (a ++ b) ts) : fresh a ts := ⟨(List.nodup_append.1 h.1).1, fun k hk => h.2 k (by simp [hk])⟩
theorem fresh.right {a b : List Bytes} {ts ts' : TS} (h : fresh (a ++ b) ts) (g : TGo a ts ts') : fresh b ts' := ⟨(List.nodup_append.1 h.1).2.1, fun k hk hm => by
  rcases g.keys k hm with hm | hm
  · exact h.2 k (by simp [hk]) hm
  · exact (List.nodup_append.1 h.1).2.2 k hm k hk rfl⟩
theorem TGo.blk {ns : List Bytes} {l : List St} {f : TS → Int × TS} {ts : TS} (hf : (f ts).1 = 0 → TGo ns ts (f ts).2) (h0 : (blkOf l f ts).1 = 0) : TGo ns ts (blkOf l f ts).2 := by
  unfold blkOf at h0 ⊢
  split at h0
  · rename_i h; exact (h h0).elim
  · rename_i h
    rw [if_neg h]
    have g := hf (by simpa using h)
    exact ⟨TOk.dels _ _ l (vis := (f ts).2.visible) g.ok, g.mono, g.keys⟩
theorem go_step (t : St) (B E : TS → Int × TS) (ts : TS) (h : TOk ts) (hf : fresh (nmS t) ts)
    (hB : ∀ ts, TOk ts → fresh (nmL t.body) ts → (B ts).1 = 0 → TGo (nmL t.body) ts (B ts).2)
    (hE : ∀ ts, TOk ts → fresh (nmL t.els) ts → (E ts).1 = 0 → TGo (nmL t.els) ts (E ts).2)
    (h0 : (stStep t B E ts).1 = 0) : TGo (nmS t) ts (stStep t B E ts).2 := by
  rw [nmS_eq] at hf ⊢
  unfold stStep at h0 ⊢
  by_cases he : (opsT ts.visible t).2.2 ≠ 0
  · rw [if_pos he] at h0; exact (he h0).elim
  rw [if_neg he] at h0 ⊢
  by_cases h1 : t.op = 1
  · rw [if_pos h1] at h0 ⊢
    rw [if_pos (.inl h1)] at hf ⊢
    exact (TGo.set h (hf.2 t.name (by simp)) _ _).mono' (fun k hk => by simp at hk; simp [hk])
  rw [if_neg h1] at h0 ⊢
  by_cases h2 : t.op = 2
  · rw [if_pos h2]
    rcases kGet ts.visible t.name with _ | ty
    · exact .refl h _
    · exact .refl h _
  rw [if_neg h2] at h0 ⊢
  by_cases h3 : t.op = 3
  · rw [if_pos h3]; exact .refl h _
  rw [if_neg h3] at h0 ⊢
  by_cases h4 : t.op = 4
  · rw [if_pos h4]; exact .refl h _
  rw [if_neg h4] at h0 ⊢
  by_cases h7 : t.op = 7
  · rw [if_pos h7]; exact .refl h _
  rw [if_neg h7] at h0 ⊢
  by_cases h5 : t.op = 5
  · rw [if_pos h5] at h0 ⊢
    by_cases h6 : (opsT ts.visible t).1 ≠ 3
    · rw [if_pos h6] at h0; simp at h0
    rw [if_neg h6] at h0 ⊢
    by_cases h8 : (blkOf t.body B ts).1 ≠ 0
    · rw [if_pos h8] at h0; exact (h8 h0).elim
    rw [if_neg h8] at h0 ⊢
    rw [if_neg (by omega), List.nil_append] at hf ⊢
    have g1 := TGo.blk (l := t.body) (fun g => hB ts h hf.left g) (by simpa using h8)
    have g2 := TGo.blk (l := t.els) (fun g => hE _ g1.ok (hf.right g1) g) h0
    exact g1.trans g2
  rw [if_neg h5] at h0 ⊢
  by_cases h6 : t.op = 6
  · rw [if_pos h6] at h0 ⊢
    by_cases h8 : (opsT ts.visible t).1 ≠ 1 ∨ (opsT ts.visible t).2.1 ≠ 1
    · rw [if_pos h8] at h0; simp at h0
    rw [if_neg h8] at h0 ⊢
    rw [if_pos (.inr h6)] at hf ⊢
    have g0 := TGo.set h (hf.2 t.name (by simp)) 1 (kSet ts.loops t.name true)
    have g1 := TGo.blk (l := t.body) (fun g => hB _ g0.ok (hf.right g0).left g) h0
    have g2 := g0.trans g1
    exact ⟨g1.ok.del t.name, g2.mono, fun k hk => by
      rcases g2.keys k hk with hk | hk
      · exact .inl hk
      · refine .inr ?_
        simp only [List.mem_append] at hk ⊢
        rcases hk with hk | hk
        · exact .inl hk
        · exact .inr (.inl hk)⟩
  · rw [if_neg h6]
    exact .refl h _
mutual
theorem go_st : ∀ (t : St) (ts : TS), TOk ts → fresh (nmS t) ts → (stT t ts).1 = 0 → TGo (nmS t) ts (stT t ts).2
  | .mk op name mx a b body els, ts, h, hf, h0 => by
    rw [stT_eq] at h0 ⊢
    exact go_step (.mk op name mx a b body els) _ _ ts h hf (fun ts => go_seq body ts) (fun ts => go_seq els ts) h0
theorem go_seq : ∀ (l : List St) (ts : TS), TOk ts → fresh (nmL l) ts → (seqT l ts).1 = 0 → TGo (nmL l) ts (seqT l ts).2
  | [], ts, h, hf, h0 => by rw [seqT]; exact .refl h _
  | t :: l, ts, h, hf, h0 => by
    rw [seqT] at h0 ⊢
    rw [nmL] at hf ⊢
    split at h0
    · rename_i he; exact (he h0).elim
    rename_i he
    rw [if_neg he]
    have g1 := go_st t ts h hf.left (by simpa using he)
    exact g1.trans (go_seq l _ g1.ok (hf.right g1) h0)
end
def tyS (G : Vis) (s : MS) : Prop := ∀ k v ty, kGet s.vars k = some v → kGet G k = some ty → v.k = ty
def kindOf (op : Int) : Int := if 10 ≤ op ∧ op ≤ 15 then 3 else (sigOf op).2
theorem kind_exact {r : Int × Int} {v : V} (h : exactS r = .ok v) : v.k = 1 := by
  unfold exactS at h
  split at h
  · cases h; rfl
  · split at h <;> cases h
theorem kind_text {s : Bytes} {v : V} (h : textS s = .ok v) : v.k = 2 := by
  unfold textS at h
  split at h
  · cases h
  · cases h; rfl
section
variable {C : Cfg}
theorem kind_op {op : Int} {l : List V} {s t : MS} {v : V} (har : (l.length : Int) = arity op) (h : opS C op l s = (.ok v, t)) : v.k = kindOf op := by
  have hy : ∀ {x : EV} {u : MS}, (x, u) = ((.ok v, t) : EV × MS) → x = .ok v := fun h => congrArg Prod.fst h
  unfold opS at h
  split at h
  · rename_i a
    have hop : op = 9 ∨ op = 18 ∨ op = 20 ∨ op = 21 ∨ op = 22 ∨ op = 23 ∨ op = 24 := by
      unfold arity at har
      simp at har
      split at har
      · omega
      split at har
      · omega
      split at har
      · omega
      · omega
    rcases hop with rfl | rfl | rfl | rfl | ho
    · have e : unS C 9 a s = (if a.k = 1 then exactS (numNeg a.n) else .error (ab 1009), s) := rfl
      rw [e] at h
      have h := hy h
      split at h
      · exact kind_exact h
      · cases h
    · have e : unS C 18 a s = (if a.k = 3 then .ok (vB (decide (a.n = 0))) else .error (ab 1009), s) := rfl
      rw [e] at h
      have h := hy h
      split at h
      · cases h; rfl
      · cases h
    · have e : unS C 20 a s = (if a.k = 1 then textS (C.fmt a.n) else .error (ab 1009), s) := rfl
      rw [e] at h
      have h := hy h
      split at h
      · exact kind_text h
      · cases h
    · have e : unS C 21 a s = (if a.k = 2 then .ok (vI a.s.size) else .error (ab 1009), s) := rfl
      rw [e] at h
      have h := hy h
      split at h
      · cases h; rfl
      · cases h
    · unfold unS at h
      rw [if_neg (by omega), if_neg (by omega), if_neg (by omega), if_neg (by omega)] at h
      by_cases hk : a.k ≠ 2
      · rw [if_pos hk] at h; cases h
      rw [if_neg hk] at h
      rcases hx : fetchS C a.s s with ⟨z | w, m'⟩
      · rw [hx] at h; cases h
      · rw [hx] at h
        have h := hy h
        rcases ho with rfl | rfl | rfl
        · have e : gotS 22 w = if w.k = 0 then .ok (vI 0) else if w.k ≠ 1 then .error (ab 1003) else .ok w := by simp [gotS]
          rw [e] at h
          split at h
          · cases h; rfl
          split at h
          · cases h
          · rename_i h2
            have hv : w = v := by injection h
            have : w.k = 1 := by omega
            rw [← hv, this]; rfl
        · have e : gotS 23 w = if w.k = 0 then textS em else if w.k ≠ 2 then .error (ab 1003) else .ok w := by simp [gotS]
          rw [e] at h
          split at h
          · exact kind_text h
          split at h
          · cases h
          · rename_i h2
            have hv : w = v := by injection h
            have : w.k = 2 := by omega
            rw [← hv, this]; rfl
        · have e : gotS 24 w = .ok (vB (!decide (w.k = 0))) := by simp [gotS]
          rw [e] at h
          cases h; rfl
  · rename_i a b
    have g := hy h
    clear h hy
    have hop : (4 ≤ op ∧ op ≤ 8) ∨ (10 ≤ op ∧ op ≤ 17) ∨ op = 19 := by
      unfold arity at har
      simp at har
      split at har
      · omega
      split at har
      · omega
      split at har
      · omega
      · omega
    unfold binS at g
    by_cases ho : op = 4 ∨ op = 5 ∨ op = 6 ∨ op = 7 ∨ op = 8
    · rw [if_pos ho] at g
      have : kindOf op = 1 := by unfold kindOf sigOf; rw [if_neg (by omega), if_pos (by omega)]
      rw [this]
      split at g
      · unfold arithS at g
        repeat' split at g
        all_goals exact kind_exact g
      · cases g
    rw [if_neg ho] at g
    by_cases h16 : op = 16
    · rw [if_pos h16] at g
      rw [h16]
      split at g
      · cases g; rfl
      · cases g
    rw [if_neg h16] at g
    by_cases h17 : op = 17
    · rw [if_pos h17] at g
      rw [h17]
      split at g
      · cases g; rfl
      · cases g
    rw [if_neg h17] at g
    by_cases h19 : op = 19
    · rw [if_pos h19] at g
      rw [h19]
      split at g
      · exact kind_text g
      · cases g
    rw [if_neg h19] at g
    unfold compS at g
    split at g
    · cases g
      unfold kindOf
      rw [if_pos (by omega)]
      rfl
    · cases g
  · cases h
theorem kind_ev {G vis : Vis} (hsub : subV vis G) {e : Ex} {d : Nat} {ty : Int} (hc : chkE e d = 0) (hof : ofE vis e = (ty, 0)) {s t : MS} {v : V} (hT : tyS G s) (h : evE C e s = (.ok v, t)) : v.k = ty ∧ 1 ≤ ty ∧ ty ≤ 3 := by
  have har := chkE_arity hc
  rw [ofE_eq] at hof
  rw [evE_eq] at h
  have hk : ∀ (op : Int), 1 ≤ (sigOf op).2 ∧ (sigOf op).2 ≤ 3 := fun op => by
    unfold sigOf
    repeat' split
    all_goals decide
  by_cases h3 : e.op = 3
  · rw [if_pos h3] at hof
    rw [if_neg (by omega), if_neg (by omega), if_pos h3] at h
    have h := congrArg Prod.fst h
    simp only at h
    split at h
    · rename_i w hw
      cases h
      unfold varT at hof
      split at hof
      · cases hof
      · rename_i u hu
        split at hof
        · cases hof
        · cases hof
          exact ⟨hT _ _ _ hw (hsub _ _ hu), by omega, by omega⟩
    · cases h
  · rw [if_neg h3] at hof
    split at hof
    · rename_i he
      have := congrArg Prod.snd hof
      simp only at this
      exact (he this).elim
    have hty : ty = kindOf e.op := by
      unfold kindOf
      split at hof
      · rename_i ho
        split at hof
        · cases hof
        · cases hof; rw [if_pos ho]
      · rename_i ho
        rw [if_neg ho]
        split at hof
        · cases hof; rfl
        · cases hof
    have hr : 1 ≤ ty ∧ ty ≤ 3 := by
      rw [hty]; unfold kindOf; split
      · omega
      · exact hk _
    refine ⟨?_, hr⟩
    rw [hty]
    split at h
    · rename_i h1
      cases h
      unfold kindOf sigOf
      rw [if_neg (by omega), if_pos (.inl h1)]; rfl
    split at h
    · rename_i h1
      cases h
      unfold kindOf sigOf
      rw [if_neg (by omega), if_neg (by omega), if_pos (.inl h1)]; rfl
    split at h
    · cases h
    · rename_i l m' hL
      exact kind_op (by rw [evL_len hL]; exact har) h
end
end Go.Cw

namespace Go.Cw
open Go Go.Abs
def loopR (body : RM → RM) (name : Bytes) (b : Int) : Nat → Int → RM → RM
  | 0, _, m => m
  | f + 1, i, m => if i < b ∧ m.st = 0 then (if (tickR m).st = 0 then loopR body name b f (W64 (i + 1)) (body { tickR m with vars := setR (tickR m).vars ⟨name, vI i⟩ }) else loopR body name b f (W64 (i + 1)) (tickR m)) else m
section
variable (C : Cfg)
mutual
def stR : St → RM → RM
  | .mk op name mx a b body els, m =>
    if op = 8 then m.ab mx
    else if (evR C a m).2.st ≠ 0 then (evR C a m).2
    else if op = 1 ∨ op = 2 then { (evR C a m).2 with vars := setR (evR C a m).2.vars ⟨name, (evR C a m).1⟩ }
    else if op = 4 then storeR C (evR C a m).2 (evR C a m).1.s V.nil
    else if op = 7 then emitR (evR C a m).2 (evR C a m).1
    else if op = 5 then (if (evR C a m).1.n = 1 then blkR body (evR C a m).2 else blkR els (evR C a m).2)
    else if (evR C b (evR C a m).2).2.st ≠ 0 then (evR C b (evR C a m).2).2
    else if op = 3 then storeR C (evR C b (evR C a m).2).2 (evR C a m).1.s (evR C b (evR C a m).2).1
    else if (evR C a m).1.n < (evR C b (evR C a m).2).1.n ∧ ((numSub (evR C b (evR C a m).2).1.n (evR C a m).1.n).2 ≠ 0 ∨ mx < (numSub (evR C b (evR C a m).2).1.n (evR C a m).1.n).1) then (evR C b (evR C a m).2).2.ab 1005
    else loopR (fun m => blkR body m) name (evR C b (evR C a m).2).1.n ((evR C b (evR C a m).2).1.n - (evR C a m).1.n).toNat (evR C a m).1.n (evR C b (evR C a m).2).2
def blkR : List St → RM → RM
  | [], m => m
  | t :: l, m => if m.st ≠ 0 then m else if (tickR m).st = 0 then blkR l (stR t (tickR m)) else blkR l (tickR m)
end
end
theorem blkR_dead (C : Cfg) : ∀ (l : List St) {m : RM}, m.st ≠ 0 → blkR C l m = m
  | [], m, h => by rw [blkR]
  | t :: l, m, h => by rw [blkR, if_pos h]
theorem loopR_dead {body : RM → RM} {name : Bytes} {b : Int} : ∀ (f : Nat) (i : Int) {m : RM}, m.st ≠ 0 → loopR body name b f i m = m
  | 0, i, m, h => by rw [loopR]
  | f + 1, i, m, h => by rw [loopR, if_neg (fun g => h g.2)]
theorem loopS_end {body : MS → Except Stop Unit × MS} {name : Bytes} {b : Int} : ∀ (f : Nat) {i : Int} {s : MS}, ¬ i < b → loopS body name b f i s = (.ok (), s)
  | 0, i, s, h => by rw [loopS]
  | f + 1, i, s, h => by rw [loopS, if_neg h]
theorem loopR_end {body : RM → RM} {name : Bytes} {b : Int} : ∀ (f : Nat) {i : Int} {m : RM}, ¬ i < b → loopR body name b f i m = m
  | 0, i, m, h => by rw [loopR]
  | f + 1, i, m, h => by rw [loopR, if_neg (fun g => h g.1)]
structure Pre (G : Vis) (r p : Nat) (s : MS) (m : RM) : Prop where
  inv : Inv r p s
  vm : vM s
  ty : tyS G s
  sim : Sim s m
def Post (G : Vis) (x : Except Stop Unit × MS) (m : RM) : Prop := match x.1 with
  | .ok _ => Pre G 0 0 x.2 m
  | .error z => Dead z x.2 m
theorem tyS_set {G : Vis} {s : MS} {k : Bytes} {v : V} (h : tyS G s) (hk : ∀ ty, kGet G k = some ty → v.k = ty) : tyS G { s with vars := kSet s.vars k v } := fun x w ty hx hg => by
  simp only at hx
  rw [kGet_set] at hx
  split at hx
  · rename_i e; subst e; cases hx; exact hk ty hg
  · exact h x w ty hx hg
theorem Sim.set {s : MS} {m : RM} (h : Sim s m) (k : Bytes) (v : V) : Sim { s with vars := kSet s.vars k v } { m with vars := setR m.vars ⟨k, v⟩ } := ⟨fun x => by
  simp only
  rw [kGet_set, (setR_map _ _ _).1, (setR_map _ _ _).2]
  by_cases hx : k = x
  · simp [hx]
  · simp [hx, h.vars x], h.own, h.keys, h.out, h.reads, h.puts, h.steps, h.st, h.code, h.miss⟩
section
variable {C : Cfg} (hV : vC C) (hC : rngC C)
include hV hC
theorem pre_ev {G vis : Vis} {e : Ex} {r p : Nat} {s : MS} {m : RM} (hg : goX e) (hc : chkE e 1 = 0) (h : Pre G (r + 4095) p s m) :
    (∀ z s', evE C e s = (.error z, s') → Dead z s' (evR C e m).2) ∧
    (∀ v s', evE C e s = (.ok v, s') → (evR C e m).1 = v ∧ Pre G r p s' (evR C e m).2 ∧ okX v ∧ rngV v ∧ ∀ ty, subV vis G → ofE vis e = (ty, 0) → v.k = ty ∧ 1 ≤ ty ∧ ty ≤ 3) := by
  have hS := sim_ev hV hC e 1 s m hc hg.1 h.vm h.inv.rng h.inv.ar h.sim
  have hI := h.inv.eval hC (r := r) hg
  have hE := evE_ok hC e s hg.1 h.inv.rng h.inv.ar
  refine ⟨fun z s' hx => ?_, fun v s' hx => ?_⟩
  · rw [hx] at hS
    exact (show _ ∧ Dead z s' (evR C e m).2 from hS).2
  · have hk := okX_ev hV hC e 1 s s' v hc hg.1 h.vm h.inv.rng h.inv.ar hx
    have ht := fun ty (hsub : subV vis G) (ho : ofE vis e = (ty, 0)) => kind_ev (C := C) hsub hc ho h.ty hx
    rw [hx] at hS hI hE
    have hS : (evR C e m).1 = v ∧ Sim s' (evR C e m).2 := hS
    refine ⟨hS.1, ⟨hI.1, vM_ev hE.1 h.vm, ?_, hS.2⟩, hk, hI.2 v rfl, ht⟩
    have : s'.vars = s.vars := by have := hE.1.eq; simp only at this; rw [this]
    intro k w ty hw hg
    rw [this] at hw
    exact h.ty k w ty hw hg
omit hV hC in
theorem pre_tick {G : Vis} {s : MS} {m : RM} (h : Pre G 0 0 s m) : (∀ z s', tickS s = (.error z, s') → (tickR m).st ≠ 0 ∧ Dead z s' (tickR m)) ∧ (∀ u s', tickS s = (.ok u, s') → (tickR m).st = 0 ∧ Pre G 8192 1 s' (tickR m)) := by
  have hS := sim_tick h.sim h.inv.st
  refine ⟨fun z s' hx => ?_, fun u s' hx => ?_⟩
  · rw [hx] at hS
    have hS : Dead z s' (tickR m) := hS
    exact ⟨by rw [hS.st]; exact hS.ne, hS⟩
  · have hi := h.inv.tick hx
    have hv : s'.vars = s.vars ∧ s'.own = s.own := by
      unfold tickS at hx
      have := congrArg Prod.snd hx
      simp only at this
      subst this
      exact ⟨rfl, rfl⟩
    rw [hx] at hS
    have hS : Sim s' (tickR m) := hS
    refine ⟨hS.st, hi, ⟨by rw [hv.1]; exact h.vm.1, by rw [hv.2]; exact h.vm.2⟩, fun k w ty hw hg => h.ty k w ty (by rw [← hv.1]; exact hw) hg, hS⟩
omit hV hC in
theorem sim_loop {G : Vis} {body : MS → Except Stop Unit × MS} {bodyR : RM → RM} {name : Bytes} {b : Int} (hb64 : i64 b) (hG : ∀ ty, kGet G name = some ty → ty = 1)
    (hb : ∀ s m, Pre G 8192 1 s m → Post G (body s) (bodyR m)) : ∀ (f g : Nat) (i : Int) (s : MS) (m : RM), i64 i → b - i ≤ f → b - i ≤ g → Pre G 0 0 s m → Post G (loopS body name b f i s) (loopR bodyR name b g i m)
  | 0, g, i, s, m, hi, h1, h2, h => by
    rw [loopS_end 0 (by omega), loopR_end g (by omega)]
    exact h
  | f + 1, 0, i, s, m, hi, h1, h2, h => by
    rw [loopS_end _ (by omega), loopR_end 0 (by omega)]
    exact h
  | f + 1, g + 1, i, s, m, hi, h1, h2, h => by
    by_cases hlt : i < b
    · obtain ⟨t1, t2⟩ := pre_tick h
      rw [loopS, if_pos hlt, loopR, if_pos ⟨hlt, h.sim.st⟩]
      have hw : W64 (i + 1) = i + 1 := W64_id (by have := hi.1; omega) (by have := hb64.2; omega)
      rcases hx : tickS s with ⟨z | u, s'⟩
      · obtain ⟨e1, e2⟩ := t1 _ _ hx
        simp only
        rw [if_neg e1, loopR_dead _ _ e1]
        exact e2
      · obtain ⟨e1, e2⟩ := t2 _ _ hx
        simp only
        rw [if_pos e1]
        have hp : Pre G 8192 1 { s' with vars := kSet s'.vars name (vI i) } { tickR m with vars := setR (tickR m).vars ⟨name, vI i⟩ } := ⟨e2.inv.vars (rng_vI hi) name, ⟨fun q hq => by
          rcases kSet_mem hq with rfl | hq
          · exact okX_vI i
          · exact e2.vm.1 q hq, e2.vm.2⟩, tyS_set e2.ty (fun ty hg => (hG ty hg).symm), e2.sim.set name (vI i)⟩
        have hB := hb _ _ hp
        rcases hy : body { s' with vars := kSet s'.vars name (vI i) } with ⟨z | u', s''⟩
        · rw [hy] at hB
          have hB : Dead z s'' _ := hB
          simp only
          rw [loopR_dead _ _ (by rw [hB.st]; exact hB.ne)]
          exact hB
        · rw [hy] at hB
          have hB : Pre G 0 0 s'' _ := hB
          simp only
          rw [hw]
          exact sim_loop hb64 hG hb f g (i + 1) s'' _ ⟨by have := hi.1; omega, by have := hb64.2; omega⟩ (by omega) (by omega) hB
    · rw [loopS_end _ hlt, loopR_end _ hlt]
      exact h
end
theorem sub_num {a b : Int} (ha : i64 a) (hb : i64 b) (h : a < b) : ((numSub b a).2 ≠ 0 ∨ (∀ mx, mx < (numSub b a).1 ↔ mx < b - a)) ∧ ((numSub b a).2 ≠ 0 → 9223372036854775807 < b - a) := by
  obtain ⟨a1, a2⟩ := ha
  obtain ⟨b1, b2⟩ := hb
  have e : W64 (b - a) = if b - a ≤ 9223372036854775807 then b - a else b - a - 18446744073709551616 := by
    unfold W64
    simp only [IntKind.wrap, IntKind.bits, IntKind.signed, Bool.true_and, decide_eq_true_eq, show (2 : Int) ^ (64 - 1) = 9223372036854775808 by decide, show (2 : Int) ^ 64 = 18446744073709551616 by decide]
    split <;> split <;> omega
  unfold numSub
  rw [e]
  by_cases h1 : b - a ≤ 9223372036854775807
  · rw [if_pos h1, if_neg (by omega)]
    refine ⟨.inr fun mx => by simp, fun h => by simp at h⟩
  · rw [if_neg h1, if_pos (by omega)]
    exact ⟨.inl (by simp), fun _ => by omega⟩
theorem many_iff {a b mx : Int} (ha : i64 a) (hb : i64 b) (h1 : 1 ≤ mx) (h2 : mx ≤ 16) : tooMany a b mx ↔ (a < b ∧ ((numSub b a).2 ≠ 0 ∨ mx < (numSub b a).1)) := by
  unfold tooMany
  refine and_congr_right fun h => ?_
  have hn := sub_num ha hb h
  have key : IntKind.u64.wrap mx < IntKind.u64.wrap (IntKind.u64.wrap b - IntKind.u64.wrap a) ↔ mx < b - a := by
    obtain ⟨a1, a2⟩ := ha
    obtain ⟨b1, b2⟩ := hb
    simp only [IntKind.wrap, IntKind.bits, IntKind.signed]
    simp
    omega
  rw [key]
  rcases hn.1 with h3 | h3
  · have := hn.2 h3
    exact ⟨fun _ => .inl h3, fun _ => by omega⟩
  · rw [← h3]
    exact ⟨.inr, fun g => g.elim (fun g => (h3 mx).2 (by have := hn.2 g; omega)) id⟩
end Go.Cw
