/- Part 17 of a proof: CwOc, CwUb, CwUc -/
import Derived.Test.YtcmbmfmpelnimaaGreatDoorQ16
set_option linter.all false

namespace Go.Cw
open Go Go.Abs
def meetS (a b : List Bytes) : Bool := a.any fun k => hasK b k
def conflS (a b : Foot) : Bool :=
  if footOk a.all a.reads a.writes = false ∨ footOk b.all b.reads b.writes = false ∨ a.all = true ∨ b.all = true then true
  else meetS a.writes b.writes || (meetS a.writes b.reads || meetS a.reads b.writes)
section
variable {fmt : Int → Bytes} {procs : List Proc} {s : List Pr}
theorem occ_nth (hs : rngL s) : ∀ (l : List Txn), BatchIn fmt procs l → ∀ i (h : i < l.length),
    (occS fmt procs s l).2.2[i]? = some (!validO (oneS fmt procs s l[i]).2 (roundS fmt procs s (l.take i)).2) ∧
    (validO (oneS fmt procs s l[i]).2 (roundS fmt procs s (l.take i)).2 = true → (occS fmt procs s l).2.1[i]? = some (oneS fmt procs s l[i]).2) := by
  refine snoc_ind (fun _ i h => by simp at h) fun l t ih hB i h => ?_
  obtain ⟨h1, h2, h3⟩ := occ_serial (fmt := fmt) (procs := procs) hs l hB.init
  have hl2 : (occS fmt procs s l).2.1.length = l.length := by rw [h2, roundS_len]
  by_cases hi : i < l.length
  · have := ih hB.init i hi
    rw [List.getElem_append_left hi, List.take_append_of_le_length (by omega), occ_snoc, occStep]
    split
    · simp only
      rw [List.getElem?_append_left (by omega), List.getElem?_append_left (by omega)]
      exact this
    · simp only
      rw [List.getElem?_append_left (by omega), List.getElem?_append_left (by omega)]
      exact this
  · have e : i = l.length := by simp at h; omega
    subst e
    rw [List.getElem_concat_length rfl, List.take_append_of_le_length (Nat.le_refl _), List.take_length, occ_snoc, occStep, ← h2]
    split
    · rename_i hv
      simp only
      rw [List.getElem?_append_right (by omega), List.getElem?_append_right (by omega), h3, hl2]
      simp [hv]
    · rename_i hv
      simp only
      rw [List.getElem?_append_right (by omega), h3]
      simp [hv]
theorem occ_again {l : List Txn} (hs : rngL s) (hB : BatchIn fmt procs l) {i : Nat} (h : i < l.length) (hv : validO (oneS fmt procs s l[i]).2 (roundS fmt procs s (l.take i)).2 = false) :
    i ≠ 0 ∧ (oneS fmt procs s l[i]).2.reads ≠ [] ∧ ∃ n, ∃ hn : n < i, conflS l[n].ft l[i].ft = true := by
  have hx : ∃ k, k ∈ (oneS fmt procs s l[i]).2.reads ∧ ∃ x, x ∈ (roundS fmt procs s (l.take i)).2 ∧ wroteS x k = true := by
    refine Classical.byContradiction fun hno => ?_
    have : validO (oneS fmt procs s l[i]).2 (roundS fmt procs s (l.take i)).2 = true := validO_iff.2 fun k hk x hx => by
      rcases hw : wroteS x k with _ | _
      · rfl
      · exact (hno ⟨k, hk, x, hx, hw⟩).elim
    rw [this] at hv; cases hv
  obtain ⟨k, hk, x, hx, hw⟩ := hx
  obtain ⟨n, hn, rfl⟩ := List.getElem_of_mem hx
  have hn' : n < i := by rw [roundS_len, List.length_take] at hn; omega
  have he := ser_effs (fmt := fmt) (procs := procs) (s := s) (l.take i) n (by rw [List.length_take]; omega)
  rw [List.getElem?_eq_getElem hn] at he
  have he := Option.some.inj he
  rw [List.getElem_take] at he
  refine ⟨by omega, List.ne_nil_of_mem hk, n, hn', ?_⟩
  obtain ⟨fi, mi⟩ := one_foot_reads hk
  rw [he] at hw
  obtain ⟨fn, mn⟩ := one_foot_writes (fmt := fmt) (procs := procs) (s := serSt fmt procs s (l.take i) n) (t := l[n]) ⟨hB.fmt, hB.body, fun y hy => by simp at hy; subst hy; exact hB.args _ (List.getElem_mem _)⟩ (round_ok hs _ ((hB.take i).take n)).rng hw
  unfold conflS
  split
  · rfl
  · rename_i hc
    simp only [not_or, Bool.not_eq_false, Bool.not_eq_true] at hc
    have h1 : hasK l[n].ft.writes k = true := by
      rcases mn with h | h
      · rw [hc.2.2.1] at h; cases h
      · exact h
    have h2 : hasK l[i].ft.reads k = true := by
      rcases mi with h | h
      · rw [hc.2.2.2] at h; cases h
      · exact h
    have : meetS l[n].ft.writes l[i].ft.reads = true := List.any_eq_true.2 ⟨k, hasK_iff.1 h1, h2⟩
    simp [this]
end
end Go.Cw

namespace Go.Cw
open Go Go.Abs
section
variable {fmt : Int → Bytes} {p : Proc} {args : List V} {st : List Pr}
end
section
variable (fmt : Int → Bytes)
structure Res where
  id : Int
  att : Int
  status : Int
  code : Int
  out : List V
def Res.c (r : Res) : List AV := [I r.id, I r.att, I r.status, I r.code, .slice (r.out.map V.c)]
def Res.z : Res := ⟨0, 0, 0, 0, []⟩
end
section
variable {fmt : Int → Bytes}
end
end Go.Cw

namespace Go.Cw
open Go Go.Abs
section
variable {fmt : Int → Bytes}
structure Tal (L : List Txn) (l : List Txn) (is : List Nat) (out : List Res) : Prop where
  len : is.length = l.length
  ol : out.length = L.length
  nod : is.Nodup
  lt : ∀ i ∈ is, i < L.length
  id : ∀ j (h : j < l.length) (h' : j < is.length) (h2 : is[j] < L.length), l[j].id = L[is[j]].id
  done : ∀ i (h : i < L.length) (h' : i < out.length), i ∈ is ∨ (out[i].id = L[i].id ∧ (out[i].status = 1 ∨ out[i].status = 2))
end
end Go.Cw
