/- Part 20 of a proof: W8, W9, W10, W11, W12, W13, W19 -/
import Derived.Shelf.Small.Strs
import Derived.Test.YtgcdpfpffalalaaGreatDoorQ09
import Derived.Test.YtgcdpfpffalalaaGreatDoorQ10
import Derived.Test.YtgcdpfpffalalaaGreatDoorQ13
import Derived.Test.YtgcdpfpffalalaaGreatDoorQ14
import Derived.Test.YtgcdpfpffalalaaGreatDoorQ18
import Derived.Test.YtgcdpfpffalalaaGreatDoorQ19
set_option linter.all false

set_option linter.unusedSimpArgs false
set_option linter.unusedVariables false
set_option maxRecDepth 4000
namespace Go.Proofs.YtgcdpfpffalalaaGreatDoor
open Go Go.Abs Go.Cw

theorem c_ast_walk {σ : Type} {fs fr : FuncId} {cs cr : List AV} {H : σ → AHeap} {fS : σ → St → Nat → σ} {fR : σ → Ex → σ} {n0 : Nat} {K : σ → Nat} {M : Nat} (B : CB Tryz.prog fs fr cs cr H fS fR n0 K M) (p : Proc) (s : σ) (hK : K s + 401 ≤ M) :
    ACalls Tryz.prog 162 [.agg p.c, .fn (.func fs) [] cs, .fn (.func fr) [] cr] (H s) fun r h' => r = .ret (.val (.int .i64 (IntKind.i64.wrap (401 - ((blkW fS fR p.body 1 (401, s)).1 : Int))))) ∧ h' = H (blkW fS fR p.body 1 (401, s)).2 := by
  refine acalls_introB Tryz.func162 rfl (by kernel_rfl) (by simp [Tryz.ntmps162]) ?_
  intro E hN hh hu hb hb' hua
  rw [Tryz.ntmps162] at hN
  refine awp_of_wpC _ _ _ ?_
  simp [go_sem] at hb
  have X := B.walk (.cells p.c) (by simp [go_sem])
  have g0 : ∀ (s : σ) (x : AObj) (l : AHeap), (H s ++ x :: l)[n0]? = some x := fun s x l => by
    rw [List.getElem?_append_right (by rw [B.len]; omega), B.len, Nat.sub_self]; rfl
  have g1 : ∀ (s : σ) (x y : AObj) (l : AHeap), (H s ++ x :: y :: l)[n0 + 1]? = some y := fun s x y l => by
    rw [List.getElem?_append_right (by rw [B.len]; omega), B.len, show n0 + 1 - n0 = 1 by omega]; rfl
  simp -dsimp [go_sem, hN, B.len, g0, g1]
  refine tcall (c_walker_block X p.body 1 401 s (by omega) hK) ?_
  rintro r h' ⟨rfl, rfl⟩
  simp -dsimp [go_sem, hN, g1]
  exact ⟨_, .refl _, H (blkW fS fR p.body 1 (401, s)).2, rfl, by simp, by simp [B.len], by rw [B.len]; exact B.und _, rfl, rfl⟩

theorem c_ast_noStmt (t : St) (d : Int) (h : AHeap) : ACalls Tryz.prog 166 [.agg t.x, I d] h fun r h' => r = .ret (.tuple []) ∧ h' = h := by
  refine acalls_introB Tryz.func166 rfl (by kernel_rfl) (by simp [Tryz.ntmps166]) ?_
  intro E hN hh hu hb hb' hua
  rw [Tryz.ntmps166] at hN
  refine awp_of_wpC _ _ _ ?_
  simp -dsimp [go_sem, hN]
  exact ⟨_, .refl _, h, by simp [go_sem], by simp [go_sem], by simp, by simp [hu, go_sem], rfl, rfl⟩
theorem c_ast_noRoot (e : Ex) (h : AHeap) : ACalls Tryz.prog 165 [.agg e.x] h fun r h' => r = .ret (.tuple []) ∧ h' = h := by
  refine acalls_introB Tryz.func165 rfl (by kernel_rfl) (by simp [Tryz.ntmps165]) ?_
  intro E hN hh hu hb hb' hua
  rw [Tryz.ntmps165] at hN
  refine awp_of_wpC _ _ _ ?_
  simp -dsimp [go_sem, hN]
  exact ⟨_, .refl _, h, by simp [go_sem], by simp [go_sem], by simp, by simp [hu, go_sem], rfl, rfl⟩

theorem c_ast_Validate1 (t : St) (d : Nat) (h : AHeap) (i : Nat) (x : Int) (hi : h[i]? = some (.cells [I x])) : ACalls Tryz.prog 163 [.agg t.x, I d, .ptr i 0] h fun r h' => r = .ret (.tuple []) ∧ h' = h.set i (.cells [I (valS x t d)]) := by
  refine acalls_introB Tryz.func163 rfl (by kernel_rfl) (by simp [Tryz.ntmps163]) ?_
  intro E hN hh hu hb hb' hua
  rw [Tryz.ntmps163] at hN
  refine awp_of_wpC _ _ _ ?_
  simp [go_sem] at hb
  have hi' : i < h.length := (List.getElem?_eq_some_iff.1 hi).1
  have a1 : ∀ l, (h ++ l)[i]? = some (.cells [I x]) := fun l => by rw [List.getElem?_append_left hi']; exact hi
  have a2 : ∀ l (y : AObj), (h ++ l).set i y = h.set i y ++ l := fun l y => List.set_append_left _ _ hi'
  have hus : ∀ y : Int, hUnder h.length (h.set i (.cells [I y])) = true := fun y => hUnder_set hu (by simp [AObj.under, underL, AV.under])
  have hxx : h.set i (.cells [I x]) = h := by
    apply List.ext_getElem?
    intro j
    by_cases hj : i = j
    · subst hj; rw [List.getElem?_set_self hi', hi]
    · rw [List.getElem?_set_ne hj]
  simp -dsimp [go_sem, hN, a1]
  refine cnd (fun h0 => ?_) (fun h0 => ?_) <;> simp at h0
  · simp -dsimp [go_sem, hN]
    refine tcall_pure (c_ast_statement t d) ?_
    simp -dsimp [go_sem, hN, a1, a2]
    rw [valS, if_pos h0]
    exact ⟨_, .refl _, _, rfl, hwk.app0 _, by simp, by simpa using hus _, rfl, rfl⟩
  · simp -dsimp [go_sem, hN]
    rw [valS, if_neg h0, hxx]
    exact ⟨_, .refl _, _, rfl, hwk.app0 _, by simp, hu, rfl, rfl⟩

theorem c_ast_Validate (p : Proc) : APure Tryz.prog 115 [.agg p.c] (I (validP p)) := by
  refine apure_introB Tryz.func115 rfl (by kernel_rfl) (by simp [Tryz.ntmps115]) rfl ?_
  intro E h hN hh hu hb
  rw [Tryz.ntmps115] at hN
  refine awp_of_wpC _ _ _ ?_
  simp [go_sem] at hb
  simp -dsimp [go_sem, hN]
  refine tcall_pure (c_lexer_IsName _) ?_
  simp -dsimp [go_sem, hN]
  refine cnd (fun h0 => ?_) (fun h0 => ?_) <;> simp at h0
  · simp -dsimp [go_sem, hN]
    rw [validP, if_pos h0]
  simp -dsimp [go_sem, hN]
  refine tcall_pure (c_ast_params _) ?_
  simp -dsimp [go_sem, hN]
  refine cnd (fun h1 => ?_) (fun h1 => ?_)
  · simp -dsimp [go_sem, hN]
    simp only [Bool.not_eq_true', decide_eq_false_iff_not] at h1
    rw [validP, if_neg (by simp [h0]), if_pos h1]
  simp only [Bool.not_eq_false', decide_eq_true_eq] at h1
  simp -dsimp [go_sem, hN, h1]
  have B : CB Tryz.prog 163 165 [.ptr (h.length + 1) 0] [] (fun x : Int => h ++ [.cells p.c, .cells [I x]]) valS keepR (h.length + 2) (fun _ => 0) 401 := {
    hS := fun _ _ _ => by simp
    hR := fun _ _ => by simp
    len := fun x => by simp
    und := fun x => by rw [hUnder_ext hu]; simp [go_sem]
    ucs := by simp [underL, AV.under]
    ucr := rfl
    ncs := fun h => rfl
    ncr := fun h => rfl
    stmt := fun x L t d _ => by
      have := c_ast_Validate1 t d ((h ++ [.cells p.c, .cells [I x]]) ++ L) (h.length + 1) x (by simp)
      simpa using this
    root := fun x L e _ => by
      have := c_ast_noRoot e ((h ++ [.cells p.c, .cells [I x]]) ++ L)
      simpa [keepR] using this }
  refine tcall (c_ast_walk B p 0 (by omega)) ?_
  rintro r h' ⟨rfl, rfl⟩
  simp -dsimp [go_sem, hN]
  have hle := blkW_le valS keepR p.body 1 (401, (0 : Int))
  simp only at hle
  rw [wrapI (by omega) (by omega)]
  refine cnd (fun h2 => ?_) (fun h2 => ?_) <;> simp at h2
  · simp -dsimp [go_sem, hN]
    rw [validP, if_neg (by simp [h0]), if_neg (by simp [h1])]
    simp only
    rw [if_pos ⟨h2.1, by omega⟩]
  · simp -dsimp [go_sem, hN]
    rw [validP, if_neg (by simp [h0]), if_neg (by simp [h1])]
    simp only
    rw [if_neg (by omega)]
end Go.Proofs.YtgcdpfpffalalaaGreatDoor

set_option linter.unusedSimpArgs false
set_option linter.unusedVariables false
set_option maxRecDepth 4000
namespace Go.Proofs.YtgcdpfpffalalaaGreatDoor
open Go Go.Abs Go.Cw

theorem c_ast_Names1 (t : St) (d : Nat) (h : AHeap) (p i : Nat) (l : List Bytes) (hp : h[p]? = some (.cells [.own i l.length])) (hi : h[i]? = some (.arr 9 1 (l.map sRow))) (hl : l.length + 1 ≤ 68719476736) :
    ACalls Tryz.prog 189 [.agg t.x, I d, .ptr p 0] h fun r h' => r = .ret (.tuple []) ∧ h' = (h.set i (.arr 9 1 ((nameS l t d).map sRow))).set p (.cells [.own i (nameS l t d).length]) := by
  refine acalls_introB Tryz.func189 rfl (by kernel_rfl) (by simp [Tryz.ntmps189]) ?_
  intro E hN hh hu hb hb' hua
  rw [Tryz.ntmps189] at hN
  refine awp_of_wpC _ _ _ ?_
  simp [go_sem] at hb
  have hp' : p < h.length := (List.getElem?_eq_some_iff.1 hp).1
  have hi' : i < h.length := (List.getElem?_eq_some_iff.1 hi).1
  have hpi : p ≠ i := by rintro rfl; rw [hp] at hi; cases hi
  have a1 : ∀ l : AHeap, (h ++ l)[p]? = h[p]? := fun l => List.getElem?_append_left hp'
  have a2 : ∀ l : AHeap, (h ++ l)[i]? = h[i]? := fun l => List.getElem?_append_left hi'
  have a3 : ∀ (l : AHeap) (y : AObj), (h ++ l).set p y = h.set p y ++ l := fun l y => List.set_append_left _ _ hp'
  have a4 : ∀ (l : AHeap) (y : AObj), (h ++ l).set i y = h.set i y ++ l := fun l y => List.set_append_left _ _ hi'
  have a5 : ∀ (l : AHeap) (o y : AObj), (h.set i o ++ l).set p y = (h.set i o).set p y ++ l := fun l o y => List.set_append_left _ _ (by simpa using hp')
  have a6 : ∀ (l : AHeap) (o : AObj), (h.set i o ++ l)[p]? = h[p]? := fun l o => by rw [List.getElem?_append_left (by simpa using hp'), List.getElem?_set_ne (Ne.symm hpi)]
  have hus : ∀ (r : List (List AV)) (n : Nat), hUnder h.length ((h.set i (.arr 9 1 r)).set p (.cells [.own i n])) = true := fun r n => hUnder_set (hUnder_set hu (by simp [AObj.under])) (by simp [AObj.under, underL, AV.under, hi'])
  simp -dsimp [go_sem, hN, a1, hp]
  refine cnd (fun h0 => ?_) (fun h0 => ?_) <;> simp at h0
  · simp -dsimp [go_sem, hN, a1, a2, a3, a4, a5, a6, hp, hi]
    refine ⟨by omega, ?_⟩
    have e : nameS l t d = l ++ [t.name] := by rw [nameS, if_pos h0]
    exact ⟨_, .refl _, _, rfl, hwk.app0 _, by simp, by simpa using hus _ _, rfl, by rw [e]; simp [sRow]⟩
  · simp -dsimp [go_sem, hN]
    have e : nameS l t d = l := by rw [nameS, if_neg (by omega)]
    rw [e, set_same hi, set_same hp]
    exact ⟨_, .refl _, _, rfl, hwk.app0 _, by simp, hu, rfl, rfl⟩

theorem c_ast_Names (p : Proc) (hlen : p.params.length ≤ 34359738368) : APure Tryz.prog 136 [.agg p.c] (.slice ((namesP p).map sRow)) := by
  refine apure_introB Tryz.func136 rfl (by kernel_rfl) (by simp [Tryz.ntmps136]) rfl ?_
  intro E h hN hh hu hb
  rw [Tryz.ntmps136] at hN
  refine awp_of_wpC _ _ _ ?_
  simp [go_sem] at hb
  simp -dsimp [go_sem, hN]
  refine awp_loopA (α := List Bytes) p.params.length (fun n o => o ++ (p.params.drop n).map (·.name) = p.params.map (·.name) ∧ o.length ≤ n) (fun n o => ⟨[(1, .ptr h.length 0), (3, .ptr (h.length + 1) 0), (7, .slice (p.params.map Param.c)), (8, I p.params.length), (9, I n)], h ++ [.cells p.c, .cells [.own (h.length + 2) o.length], .arr 9 1 (o.map sRow)]⟩) [] (by simp) ((nilc_wk E _ (p := h.length + 1) (j := 0) (t := 9) (sz := 1) (xs := [.nils]) (by simp) rfl).trans ?_) ?_
  · simp
    exact (Wk.mk (by simp [hh]) (by simp [go_sem]) (by simp [hu, hUnder_ext hu, go_sem]) (by simp [go_sem]))
  intro n o hn ⟨hI, hol⟩
  have hw := wrapS hn hb.2.1.1
  simp -dsimp [go_sem, hN]
  refine cnd (fun hc => ?_) (fun hc => ?_) <;> simp at hc
  · rw [drop_next hc, List.map_cons] at hI
    simp -dsimp [go_sem, hN, hc, hw]
    exact ⟨by omega, o ++ [p.params[n].name], ⟨by simpa using hI, by simp; omega⟩, (Wk.mk (by simp [hh]) (by simp [go_sem]) (by simp [hu, hUnder_ext hu, go_sem]) (by simp [go_sem]))⟩
  rw [List.drop_eq_nil_of_le (by omega), List.map_nil, List.append_nil] at hI
  simp -dsimp [go_sem, hN]
  have B : CB Tryz.prog 189 165 [.ptr (h.length + 1) 0] [] (fun l : List Bytes => h ++ [.cells p.c, .cells [.own (h.length + 2) l.length], .arr 9 1 (l.map sRow)]) nameS keepR (h.length + 3) List.length 68719476735 := {
    hS := nameS_len
    hR := fun s _ => by simp [keepR]
    len := fun x => by simp
    und := fun x => by rw [hUnder_ext hu]; simp [go_sem]
    ucs := by simp [underL, AV.under]
    ucr := rfl
    ncs := fun h => rfl
    ncr := fun h => rfl
    stmt := fun l L t d hk => by
      have := c_ast_Names1 t d ((h ++ [.cells p.c, .cells [.own (h.length + 2) l.length], .arr 9 1 (l.map sRow)]) ++ L) (h.length + 1) (h.length + 2) l (by simp) (by simp) (by omega)
      simpa using this
    root := fun x L e _ => by
      have := c_ast_noRoot e ((h ++ [.cells p.c, .cells [.own (h.length + 2) x.length], .arr 9 1 (x.map sRow)]) ++ L)
      simpa [keepR] using this }
  refine tcall (c_ast_walk B p o (by omega)) ?_
  rintro r h' ⟨rfl, rfl⟩
  simp -dsimp [go_sem, hN]
  rw [namesP, ← hI]

theorem c_ast_copied (e : Ex) : APure Tryz.prog 168 [.agg e.x] (.agg e.x) := by
  refine apure_introB Tryz.func168 rfl (by kernel_rfl) (by simp [Tryz.ntmps168]) rfl ?_
  intro E h hN hh hu hb
  rw [Tryz.ntmps168] at hN
  refine awp_of_wpC _ _ _ ?_
  simp [go_sem] at hb
  simp -dsimp [go_sem, hN]
  refine awp_loopN e.args.length (fun n => True) (fun n => ⟨[(1, .ptr h.length 0), (2, .ptr (h.length + 1) 0), (9, .slice (e.args.map Ex.c)), (10, I e.args.length), (11, I n)], h ++ [.cells [I e.op, I e.n, S e.s, .own (h.length + 2) n], .cells [I 0, I 0, S ⟨#[]⟩, .nils], .arr 58 4 ((e.args.take n).map Ex.c)]⟩) trivial ((nilc_wk E _ (p := h.length) (j := 3) (t := 58) (sz := 4) (xs := [I e.op, I e.n, S e.s, .nils]) (by simp) rfl).trans ?_) ?_
  · simp
    exact (Wk.mk (by simp [hh]) (by simp [go_sem]) (by simp [hu, hUnder_ext hu, go_sem]) (by simp [go_sem]))
  intro n hn _
  have hw := wrapS hn hb.2.1
  simp -dsimp [go_sem, hN]
  refine cnd (fun hc => ?_) (fun hc => ?_) <;> simp at hc
  · have hlt : SizeOf.sizeOf e.args[n] < SizeOf.sizeOf e := Ex.arg_lt (List.getElem_mem hc)
    simp -dsimp [go_sem, hN, hc]
    refine awp_drawQ 5 mixed (by kernel_rfl) (by kernel_rfl) ?_
    simp -dsimp [go_sem, hN, hc]
    refine tdcall (c_ast_copied e.args[n]) (by simp) ?_
    simp -dsimp [go_sem, hN, hc, hw]
    have et : (e.args.map Ex.c).take (n + 1) = (e.args.map Ex.c).take n ++ [e.args[n].x] := by
      rw [List.take_succ_eq_append_getElem (by simpa using hc)]
      simp [Ex.c_eq]
    rw [et]
    exact ⟨by omega, by omega, (Wk.mk (by simp [hh]) (by simp [go_sem]) (by simp [hu, hUnder_ext hu, go_sem]) (by simp [go_sem]))⟩
  · simp -dsimp [go_sem, hN]
    rw [if_pos (by omega), List.take_of_length_le (by simpa using hc)]
termination_by SizeOf.sizeOf e

theorem ready_step {P : Program} {N : Nat} {Q : AExit → Env → Prop} {l : List Oper} {n : Nat} {L : Array Bool} {e : Env} (rs : List Nat) (hne : rs ≠ []) (hr : Region.ready .any l.toArray L = rs)
    (h : ∀ i, i ∈ rs → match l[i]? with
    | some o => stepF P N Q (l.map (·.dst)) o e fun e' => allF P N Q l n (L.setIfInBounds i true) e'
    | none => False) : allF P N Q l (n + 1) L e := ⟨fun h0 => (hne (hr ▸ h0)).elim, fun i hi => h i (hr ▸ hi)⟩

theorem c_ast_Exprs1 (e : Ex) (h : AHeap) (p i : Nat) (l : List Ex) (hp : h[p]? = some (.cells [.own i l.length])) (hi : h[i]? = some (.uarr 58 4 (l.map Ex.c))) (hl : l.length + 1 ≤ 68719476736) :
    ACalls Tryz.prog 167 [.agg e.x, .ptr p 0] h fun r h' => r = .ret (.tuple []) ∧ h' = (h.set i (.uarr 58 4 ((l ++ [e]).map Ex.c))).set p (.cells [.own i (l.length + 1)]) := by
  refine acalls_introB Tryz.func167 rfl (by kernel_rfl) (by simp [Tryz.ntmps167]) ?_
  intro E hN hh hu hb hb' hua
  rw [Tryz.ntmps167] at hN
  refine awp_of_wpC _ _ _ ?_
  simp [go_sem] at hb
  simp -dsimp [go_sem, hN]
  have hpl : p < h.length := (List.getElem?_eq_some_iff.1 hp).1
  have hil : i < h.length := (List.getElem?_eq_some_iff.1 hi).1
  have hpi : p ≠ i := by rintro rfl; rw [hp] at hi; cases hi
  have hip : i ≠ p := fun h => hpi h.symm
  have hp1 : ∀ l : AHeap, (h ++ l)[p]? = h[p]? := fun l => List.getElem?_append_left hpl
  have hi1 : ∀ l : AHeap, (h ++ l)[i]? = h[i]? := fun l => List.getElem?_append_left hil
  have hs1 : ∀ (y : AObj) (l : AHeap), (h ++ l).set i y = h.set i y ++ l := fun y l => List.set_append_left _ _ hil
  have hs2 : ∀ (y : AObj) (l : AHeap), (h ++ l).set p y = h.set p y ++ l := fun y l => List.set_append_left _ _ hpl
  have hs3 : ∀ (o y : AObj) (l : AHeap), (h.set i o ++ l).set p y = (h.set i o).set p y ++ l := fun o y l => List.set_append_left _ _ (by simpa using hpl)
  have hs4 : ∀ (o y : AObj) (l : AHeap), (h.set i o ++ l).set i y = h.set i y ++ l := fun o y l => by rw [List.set_append_left _ _ (by simpa using hil), List.set_set]
  have hs5 : ∀ (o o' y : AObj) (l : AHeap), ((h.set i o).set p o' ++ l).set i y = (h.set i y).set p o' ++ l := fun o o' y l => by rw [List.set_append_left _ _ (by simpa using hil), List.set_comm _ _ hpi, List.set_set]
  have hA : ∀ (o : AObj) (l : AHeap), (h.set i o ++ l)[i]? = some o := fun o l => by rw [List.getElem?_append_left (by simpa using hil)]; simp [hil]
  have hB : ∀ (o : AObj) (L : AHeap), (h.set i o ++ L)[p]? = some (.cells [.own i l.length]) := fun o L => by rw [List.getElem?_append_left (by simpa using hpl), List.getElem?_set_ne hip]; exact hp
  have hC : ∀ (o o' : AObj) (L : AHeap), ((h.set i o).set p o' ++ L)[i]? = some o := fun o o' L => by rw [List.getElem?_append_left (by simpa using hil), List.getElem?_set_ne hpi]; simp [hil]
  have hlast : ∀ z : List AV, (l.map Ex.c ++ [z])[l.length]? = some z := fun z => by rw [List.getElem?_append_right (by simp)]; simp
  have hset : ∀ y z : List AV, (l.map Ex.c ++ [z]).set l.length y = l.map Ex.c ++ [y] := fun y z => by rw [List.set_append_right _ _ (by simp)]; simp
  have hfin : ∀ e1 : Env, e1.h = (h.set i (AObj.uarr 58 4 (l.map Ex.c ++ [e.x]))).set p (AObj.cells [AV.own i (l.length + 1)]) ++ [AObj.cells e.x] →
      fnPost Tryz.prog [] h.length (fun r h' => r = AEnd.ret (AV.tuple []) ∧ h' = (h.set i (AObj.uarr 58 4 (l.map Ex.c ++ [e.x]))).set p (AObj.cells [AV.own i (l.length + 1)])) .normal e1 := fun e1 he => by
    refine ⟨trivial, .tuple [], _, .refl _, rfl, by rw [he]; exact hwk.app0 _, by simp, ?_, rfl, rfl⟩
    simpa using (hUnder_set (hUnder_set hu (by simp [AObj.under])) (by simp [AObj.under, underL, AV.under, hil]) : hUnder h.length ((h.set i (AObj.uarr 58 4 (l.map Ex.c ++ [e.x]))).set p (AObj.cells [AV.own i (l.length + 1)])) = true)
  show AWp _ _ _ _ _
  refine awp_drawX 5 mixed (by kernel_rfl) ?_
  simp [opsD, stepD, go_sem, hN, hp1, hi1, hp, hi, DR.next, rdOf, applyS]
  refine ⟨_, (c_ast_copied e).at _, by simp [sepD, List.zipIdx], ?_⟩
  refine ready_step [5] (by simp) (by kernel_rfl) ?_
  intro i' hi'
  simp only [List.mem_singleton] at hi'
  subst hi'
  simp [go_sem, hN, hp1, hi1, hp, hi, hA, hB, hC, hlast, hset, hs1, hs2, hs3, hs4, hs5]
  refine ⟨by omega, ready_step [6, 8] (by simp) (by kernel_rfl) ?_⟩
  intro i' hi'
  simp only [List.mem_cons, List.mem_singleton, List.not_mem_nil, or_false] at hi'
  rcases hi' with rfl | rfl
  · simp [go_sem, hN, hp1, hi1, hp, hi, hA, hB, hC, hlast, hset, hs1, hs2, hs3, hs4, hs5]
    refine ready_step [7, 8] (by simp) (by kernel_rfl) ?_
    intro i' hi'
    simp only [List.mem_cons, List.mem_singleton, List.not_mem_nil, or_false] at hi'
    rcases hi' with rfl | rfl
    · simp [go_sem, hN, hp1, hi1, hp, hi, hA, hB, hC, hlast, hset, hs1, hs2, hs3, hs4, hs5]
      refine ready_step [8] (by simp) (by kernel_rfl) ?_
      intro i' hi'
      simp only [List.mem_singleton] at hi'
      subst hi'
      simp [go_sem, hN, hp1, hi1, hp, hi, hA, hB, hC, hlast, hset, hs1, hs2, hs3, hs4, hs5]
      refine ⟨by kernel_rfl, hfin _ ?_⟩
      simp
    · simp [go_sem, hN, hp1, hi1, hp, hi, hA, hB, hC, hlast, hset, hs1, hs2, hs3, hs4, hs5]
      refine ready_step [7] (by simp) (by kernel_rfl) ?_
      intro i' hi'
      simp only [List.mem_singleton] at hi'
      subst hi'
      simp [go_sem, hN, hp1, hi1, hp, hi, hA, hB, hC, hlast, hset, hs1, hs2, hs3, hs4, hs5]
      refine ⟨by kernel_rfl, hfin _ ?_⟩
      simp
  · simp [go_sem, hN, hp1, hi1, hp, hi, hA, hB, hC, hlast, hset, hs1, hs2, hs3, hs4, hs5]
    refine ready_step [6] (by simp) (by kernel_rfl) ?_
    intro i' hi'
    simp only [List.mem_singleton] at hi'
    subst hi'
    simp [go_sem, hN, hp1, hi1, hp, hi, hA, hB, hC, hlast, hset, hs1, hs2, hs3, hs4, hs5]
    refine ready_step [7] (by simp) (by kernel_rfl) ?_
    intro i' hi'
    simp only [List.mem_singleton] at hi'
    subst hi'
    simp [go_sem, hN, hp1, hi1, hp, hi, hA, hB, hC, hlast, hset, hs1, hs2, hs3, hs4, hs5]
    refine ⟨by kernel_rfl, hfin _ ?_⟩
    simp

theorem c_ast_Exprs (p : Proc) : APure Tryz.prog 116 [.agg p.c] (.slice ((exprsP p).map Ex.c)) := by
  refine apure_introB Tryz.func116 rfl (by kernel_rfl) (by simp [Tryz.ntmps116]) rfl ?_
  intro E h hN hh hu hb
  rw [Tryz.ntmps116] at hN
  refine awp_of_wpC _ _ _ ?_
  simp [go_sem] at hb
  simp -dsimp [go_sem, hN]
  have B : CB Tryz.prog 166 167 [] [.ptr (h.length + 1) 0] (fun l : List Ex => h ++ [.cells p.c, .cells [.own (h.length + 2) l.length], .uarr 58 4 (l.map Ex.c)]) keepS exprR (h.length + 3) List.length 68719476735 := {
    hS := fun s _ _ => by simp [keepS]
    hR := fun s _ => by simp [exprR]
    len := fun x => by simp
    und := fun x => by rw [hUnder_ext hu]; simp [go_sem]
    ucs := rfl
    ucr := by simp [underL, AV.under]
    ncs := fun h => rfl
    ncr := fun h => rfl
    stmt := fun x L t d _ => by
      have := c_ast_noStmt t d ((h ++ [.cells p.c, .cells [.own (h.length + 2) x.length], .uarr 58 4 (x.map Ex.c)]) ++ L)
      simpa [keepS] using this
    root := fun l L e hk => by
      have := c_ast_Exprs1 e ((h ++ [.cells p.c, .cells [.own (h.length + 2) l.length], .uarr 58 4 (l.map Ex.c)]) ++ L) (h.length + 1) (h.length + 2) l (by simp) (by simp) (by omega)
      simpa [exprR] using this }
  have X := acalls_wk (h := h ++ [.cells p.c, .cells [.nils]]) (fun E => by
    have := nilcu_wk E ⟨[], h ++ [.cells p.c, .cells [.nils]]⟩ (p := h.length + 1) (j := 0) (t := 58) (sz := 4) (xs := [.nils]) (by simp) rfl
    simpa using this) (c_ast_walk B p [] (by simp))
  have Y := acalls_wkR (h2 := h ++ [.cells p.c, .cells [.own (h.length + 2) (exprsP p).length], .arr 58 4 ((exprsP p).map Ex.c)]) (fun E => by
    have := demote_wk E ⟨[], h ++ [.cells p.c, .cells [.own (h.length + 2) (exprsP p).length], .uarr 58 4 ((exprsP p).map Ex.c)]⟩ (i := h.length + 2) (t := 58) (sz := 4) (rows := (exprsP p).map Ex.c) (by simp)
    simpa [exprsP] using this) X
  refine tcall Y ?_
  rintro r h' ⟨rfl, rfl⟩
  simp -dsimp [go_sem, hN]
end Go.Proofs.YtgcdpfpffalalaaGreatDoor

set_option linter.unusedSimpArgs false
set_option linter.unusedVariables false
set_option maxRecDepth 4000
namespace Go.Proofs.YtgcdpfpffalalaaGreatDoor
open Go Go.Abs Go.Cw

theorem c_types_signature (op : Int) : APure Tryz.prog 257 [I op] (.tuple [I (sigOf op).1, I (sigOf op).2]) := by
  refine apure_introB Tryz.func257 rfl (by kernel_rfl) (by simp [Tryz.ntmps257]) rfl ?_
  intro E h hN hh hu hb
  rw [Tryz.ntmps257] at hN
  refine awp_of_wpC _ _ _ ?_
  by_cases h1 : op = 1
  · subst h1; simp -dsimp [go_sem, hN, sigOf]
  by_cases h25 : op = 25
  · subst h25; simp -dsimp [go_sem, hN, sigOf]
  by_cases h26 : op = 26
  · subst h26; simp -dsimp [go_sem, hN, sigOf]
  by_cases h27 : op = 27
  · subst h27; simp -dsimp [go_sem, hN, sigOf]
  by_cases h4 : op = 4
  · subst h4; simp -dsimp [go_sem, hN, sigOf]
  by_cases h5 : op = 5
  · subst h5; simp -dsimp [go_sem, hN, sigOf]
  by_cases h6 : op = 6
  · subst h6; simp -dsimp [go_sem, hN, sigOf]
  by_cases h7 : op = 7
  · subst h7; simp -dsimp [go_sem, hN, sigOf]
  by_cases h8 : op = 8
  · subst h8; simp -dsimp [go_sem, hN, sigOf]
  by_cases h9 : op = 9
  · subst h9; simp -dsimp [go_sem, hN, sigOf]
  by_cases h2 : op = 2
  · subst h2; simp -dsimp [go_sem, hN, sigOf]
  by_cases h19 : op = 19
  · subst h19; simp -dsimp [go_sem, hN, sigOf]
  by_cases h23 : op = 23
  · subst h23; simp -dsimp [go_sem, hN, sigOf]
  by_cases h16 : op = 16
  · subst h16; simp -dsimp [go_sem, hN, sigOf]
  by_cases h17 : op = 17
  · subst h17; simp -dsimp [go_sem, hN, sigOf]
  by_cases h18 : op = 18
  · subst h18; simp -dsimp [go_sem, hN, sigOf]
  by_cases h20 : op = 20
  · subst h20; simp -dsimp [go_sem, hN, sigOf]
  by_cases h21 : op = 21
  · subst h21; simp -dsimp [go_sem, hN, sigOf]
  by_cases h22 : op = 22
  · subst h22; simp -dsimp [go_sem, hN, sigOf]
  simp -dsimp [go_sem, hN, sigOf, h1, h25, h26, h27, h4, h5, h6, h7, h8, h9, h2, h19, h23, h16, h17, h18, h20, h21, h22]
theorem c_types_compared (op ty : Int) : APure Tryz.prog 256 [I op, I ty] (Bo (cmpOk op ty)) := by
  refine apure_introB Tryz.func256 rfl (by kernel_rfl) (by simp [Tryz.ntmps256]) rfl ?_
  intro E h hN hh hu hb
  rw [Tryz.ntmps256] at hN
  refine awp_of_wpC _ _ _ ?_
  simp -dsimp [go_sem, hN, cmpOk]
  try grind

theorem c_nondeterministic (op : Int) : APure Tryz.prog 118 [I op] (Bo (nonDet op)) := by
  refine apure_introB Tryz.func118 rfl (by kernel_rfl) (by simp [Tryz.ntmps118]) rfl ?_
  intro E h hN hh hu hb
  rw [Tryz.ntmps118] at hN
  refine awp_of_wpC _ _ _ ?_
  simp -dsimp [go_sem, hN, nonDet]
  try grind

theorem c_types_plain (s : Bytes) : APure Tryz.prog 68 [S s] (Bo (plainS s)) := by
  refine apure_introB Tryz.func68 rfl (by kernel_rfl) (by simp [Tryz.ntmps68]) rfl ?_
  intro E h hN hh hu hb
  rw [Tryz.ntmps68] at hN
  refine awp_of_wpC _ _ _ ?_
  simp [go_sem] at hb
  simp -dsimp [go_sem, hN]
  refine awp_loopN s.size (fun n => allL okB ((bl s).drop n) = allL okB (bl s)) (fun n => ⟨[(0, S s), (3, I n)], h⟩) (by simp) (Wk.mk (by simp [hh]) (by simp [go_sem]) (by simp [hu, hUnder_ext hu, go_sem]) (by simp [go_sem])) ?_
  intro n hn hI
  have hw := wrapS hn hb
  simp -dsimp [go_sem, hN]
  refine cnd (fun hc => ?_) (fun hc => ?_) <;> try simp at hc
  · rw [bdrop hc, allL] at hI
    simp -dsimp [go_sem, hN, hc]
    refine cnd (fun hg => ?_) (fun hg => ?_)
    · simp -dsimp [go_sem, hN]
      simp [plainS, ← hI, okB, hg]
    · simp -dsimp [go_sem, hN, hw]
      exact ⟨hc, by simpa [okB, hg] using hI, (Wk.mk (by simp [hh]) (by simp [go_sem]) (by simp [hu, hUnder_ext hu, go_sem]) (by simp [go_sem]))⟩
  · rw [bend (by omega), allL] at hI
    simp -dsimp [go_sem, hN, plainS, ← hI]
end Go.Proofs.YtgcdpfpffalalaaGreatDoor

set_option linter.unusedSimpArgs false
set_option linter.unusedVariables false
set_option maxRecDepth 4000
namespace Go.Proofs.YtgcdpfpffalalaaGreatDoor
open Go Go.Abs Go.Cw

theorem c_num_Neg (a : Int) : APure Tryz.prog 125 [I a] (.tuple [I (numNeg a).1, I (numNeg a).2]) := by
  refine apure_introB Tryz.func125 rfl (by kernel_rfl) (by simp [Tryz.ntmps125]) rfl ?_
  intro E h hN hh hu hb
  rw [Tryz.ntmps125] at hN
  refine awp_of_wpC _ _ _ ?_
  simp -dsimp [go_sem, hN]
  refine cnd (fun h0 => ?_) (fun h0 => ?_) <;> simp at h0 <;> simp -dsimp [go_sem, hN, numNeg, h0]

theorem c_num_Add (a b : Int) : APure Tryz.prog 175 [I a, I b] (.tuple [I (numAdd a b).1, I (numAdd a b).2]) := by
  refine apure_introB Tryz.func175 rfl (by kernel_rfl) (by simp [Tryz.ntmps175]) rfl ?_
  intro E h hN hh hu hb
  rw [Tryz.ntmps175] at hN
  refine awp_of_wpC _ _ _ ?_
  simp -dsimp [go_sem, hN]
  repeat refine ⟨by grind, ?_⟩
  refine cnd (fun h0 => ?_) (fun h0 => ?_) <;> simp at h0 <;> simp -dsimp [go_sem, hN] <;> grind [numAdd]

theorem c_num_Sub (a b : Int) : APure Tryz.prog 176 [I a, I b] (.tuple [I (numSub a b).1, I (numSub a b).2]) := by
  refine apure_introB Tryz.func176 rfl (by kernel_rfl) (by simp [Tryz.ntmps176]) rfl ?_
  intro E h hN hh hu hb
  rw [Tryz.ntmps176] at hN
  refine awp_of_wpC _ _ _ ?_
  simp -dsimp [go_sem, hN]
  repeat refine ⟨by grind, ?_⟩
  refine cnd (fun h0 => ?_) (fun h0 => ?_) <;> simp at h0 <;> simp -dsimp [go_sem, hN] <;> grind [numSub]

theorem c_num_Mul (a b : Int) : APure Tryz.prog 177 [I a, I b] (.tuple [I (numMul a b).1, I (numMul a b).2]) := by
  refine apure_introB Tryz.func177 rfl (by kernel_rfl) (by simp [Tryz.ntmps177]) rfl ?_
  intro E h hN hh hu hb
  rw [Tryz.ntmps177] at hN
  refine awp_of_wpC _ _ _ ?_
  simp -dsimp [go_sem, hN]
  repeat refine ⟨by grind, ?_⟩
  refine cnd (fun h0 => ?_) (fun h0 => ?_) <;> simp at h0 <;> simp -dsimp [go_sem, hN]
  · grind [numMul]
  refine cnd (fun h1 => ?_) (fun h1 => ?_) <;> simp at h1 <;> simp -dsimp [go_sem, hN]
  · refine tcall_pure (c_num_Neg b) ?_
    simp -dsimp [go_sem, hN]
    grind [numMul]
  refine cnd (fun h2 => ?_) (fun h2 => ?_) <;> simp at h2 <;> simp -dsimp [go_sem, hN]
  · refine tcall_pure (c_num_Neg a) ?_
    simp -dsimp [go_sem, hN]
    grind [numMul]
  repeat refine ⟨by grind, ?_⟩
  refine cnd (fun h3 => ?_) (fun h3 => ?_) <;> simp at h3 <;> simp -dsimp [go_sem, hN] <;> grind [numMul]

theorem c_num_Div (a b : Int) : APure Tryz.prog 178 [I a, I b] (.tuple [I (numDiv a b).1, I (numDiv a b).2]) := by
  refine apure_introB Tryz.func178 rfl (by kernel_rfl) (by simp [Tryz.ntmps178]) rfl ?_
  intro E h hN hh hu hb
  rw [Tryz.ntmps178] at hN
  refine awp_of_wpC _ _ _ ?_
  simp -dsimp [go_sem, hN]
  refine cnd (fun h0 => ?_) (fun h0 => ?_) <;> simp at h0 <;> simp -dsimp [go_sem, hN]
  · grind [numDiv]
  refine cnd (fun h1 => ?_) (fun h1 => ?_) <;> simp at h1 <;> simp -dsimp [go_sem, hN]
  · refine tcall_pure (c_num_Neg a) ?_
    simp -dsimp [go_sem, hN]
    grind [numDiv]
  repeat refine ⟨by grind, ?_⟩
  refine cnd (fun h3 => ?_) (fun h3 => ?_) <;> simp at h3 <;> simp -dsimp [go_sem, hN] <;> grind [numDiv]

theorem c_num_Mod (a b : Int) : APure Tryz.prog 179 [I a, I b] (.tuple [I (numMod a b).1, I (numMod a b).2]) := by
  refine apure_introB Tryz.func179 rfl (by kernel_rfl) (by simp [Tryz.ntmps179]) rfl ?_
  intro E h hN hh hu hb
  rw [Tryz.ntmps179] at hN
  refine awp_of_wpC _ _ _ ?_
  simp -dsimp [go_sem, hN]
  refine cnd (fun h0 => ?_) (fun h0 => ?_) <;> simp at h0 <;> simp -dsimp [go_sem, hN]
  · grind [numMod]
  refine cnd (fun h1 => ?_) (fun h1 => ?_) <;> simp at h1 <;> simp -dsimp [go_sem, hN]
  · grind [numMod]
  repeat refine ⟨by grind, ?_⟩
  refine cnd (fun h3 => ?_) (fun h3 => ?_) <;> simp at h3 <;> simp -dsimp [go_sem, hN] <;> grind [numMod]

theorem c_cmp_isNaN (a : Int) : APure Tryz.prog 238 [I a] (Bo false) := by
  refine apure_introB Tryz.func238 rfl (by kernel_rfl) (by simp [Tryz.ntmps238]) rfl ?_
  intro E h hN hh hu hb
  rw [Tryz.ntmps238] at hN
  refine awp_of_wpC _ _ _ ?_
  simp -dsimp [go_sem, hN]
theorem c_cmp_isNaN64 (a : Int) : APure Tryz.prog 254 [I a] (Bo false) := by
  refine apure_introB Tryz.func254 rfl (by kernel_rfl) (by simp [Tryz.ntmps254]) rfl ?_
  intro E h hN hh hu hb
  rw [Tryz.ntmps254] at hN
  refine awp_of_wpC _ _ _ ?_
  simp -dsimp [go_sem, hN]
theorem c_cmp_Compare (a b : Int) : APure Tryz.prog 213 [I a, I b] (I (cmpI a b)) := by
  refine apure_introB Tryz.func213 rfl (by kernel_rfl) (by simp [Tryz.ntmps213]) rfl ?_
  intro E h hN hh hu hb
  rw [Tryz.ntmps213] at hN
  refine awp_of_wpC _ _ _ ?_
  simp -dsimp [go_sem, hN]
  refine tcall_pure (c_cmp_isNaN a) ?_
  simp -dsimp [go_sem, hN]
  refine tcall_pure (c_cmp_isNaN b) ?_
  simp -dsimp [go_sem, hN]
  refine cnd (fun h0 => ?_) (fun h0 => ?_) <;> simp at h0 <;> simp -dsimp [go_sem, hN]
  · grind [cmpI]
  refine cnd (fun h1 => ?_) (fun h1 => ?_) <;> simp at h1 <;> simp -dsimp [go_sem, hN] <;> grind [cmpI]
theorem c_cmp_Compare64 (a b : Int) : APure Tryz.prog 239 [I a, I b] (I (cmpI a b)) := by
  refine apure_introB Tryz.func239 rfl (by kernel_rfl) (by simp [Tryz.ntmps239]) rfl ?_
  intro E h hN hh hu hb
  rw [Tryz.ntmps239] at hN
  refine awp_of_wpC _ _ _ ?_
  simp -dsimp [go_sem, hN]
  refine tcall_pure (c_cmp_isNaN64 a) ?_
  simp -dsimp [go_sem, hN]
  refine tcall_pure (c_cmp_isNaN64 b) ?_
  simp -dsimp [go_sem, hN]
  refine cnd (fun h0 => ?_) (fun h0 => ?_) <;> simp at h0 <;> simp -dsimp [go_sem, hN]
  · grind [cmpI]
  refine cnd (fun h1 => ?_) (fun h1 => ?_) <;> simp at h1 <;> simp -dsimp [go_sem, hN] <;> grind [cmpI]
theorem c_pair_numbers (u v : V) : APure Tryz.prog 214 [.agg [I u.k, I u.n, S u.s, I v.k, I v.n, S v.s]] (I (cmpI u.n v.n)) := by
  refine apure_introB Tryz.func214 rfl (by kernel_rfl) (by simp [Tryz.ntmps214]) rfl ?_
  intro E h hN hh hu hb
  rw [Tryz.ntmps214] at hN
  refine awp_of_wpC _ _ _ ?_
  simp -dsimp [go_sem, hN]
  refine tcall_pure (c_cmp_Compare64 u.n v.n) ?_
  simp -dsimp [go_sem, hN]
end Go.Proofs.YtgcdpfpffalalaaGreatDoor

set_option linter.unusedSimpArgs false
set_option linter.unusedVariables false
set_option maxRecDepth 4000
namespace Go.Proofs.YtgcdpfpffalalaaGreatDoor
open Go Go.Abs Go.Cw Go.Shelf

def renC : Ren := ⟨fun | 106 => 240 | 213 => 255 | 265 => 261 | x => x, fun | 3 => 3 | 9 => 9 | x => x, fun x => x⟩
theorem laysC : Lays.n106 Tryz.prog renC where
  mixed := by kernel_rfl
  f106 := by kernel_rfl
  f213 := by kernel_rfl
  f265 := by kernel_rfl
  t3 := by kernel_rfl
  a3 := fun _ => by kernel_rfl
  z3 := fun _ => by kernel_rfl
  v3 := fun _ => by kernel_rfl
  t9 := by kernel_rfl
  a9 := fun _ => by kernel_rfl
  z9 := fun _ => by kernel_rfl
  v9 := fun _ => by kernel_rfl

theorem c_strings_Compare (a b : Bytes) : APure Tryz.prog 240 [S a, S b] (I (cmpS a b)) :=
  apure_calls (l := [.string a, .string b]) (r := .int .i64 (cmpS a b)) rfl ⟨_, laysC.f106, rfl, rfl⟩ fun w => Any.strings_Compare laysC a b w

theorem c_pair_strings (u v : V) : APure Tryz.prog 215 [.agg [I u.k, I u.n, S u.s, I v.k, I v.n, S v.s]] (I (cmpS u.s v.s)) := by
  refine apure_introB Tryz.func215 rfl (by kernel_rfl) (by simp [Tryz.ntmps215]) rfl ?_
  intro E h hN hh hu hb
  rw [Tryz.ntmps215] at hN
  refine awp_of_wpC _ _ _ ?_
  simp -dsimp [go_sem, hN]
  refine tcall_pure (c_strings_Compare u.s v.s) ?_
  simp -dsimp [go_sem, hN]

theorem c_value_Compare (u v : V) : APure Tryz.prog 180 [.agg u.c, .agg v.c] (I (cmpV u v)) := by
  refine apure_introB Tryz.func180 rfl (by kernel_rfl) (by simp [Tryz.ntmps180]) rfl ?_
  intro E h hN hh hu hb
  rw [Tryz.ntmps180] at hN
  refine awp_of_wpC _ _ _ ?_
  simp -dsimp [go_sem, hN]
  refine cnd (fun h0 => ?_) (fun h0 => ?_) <;> simp at h0 <;> simp -dsimp [go_sem, hN]
  · refine tcall_pure (c_cmp_Compare u.k v.k) ?_
    simp -dsimp [go_sem, hN]
    simp [cmpV, h0]
  refine cnd (fun h1 => ?_) (fun h1 => ?_) <;> simp at h1 <;> simp -dsimp [go_sem, hN]
  · refine tcall_pure (c_pair_strings u v) ?_
    simp -dsimp [go_sem, hN]
    simp [cmpV, h0, h1]
  · refine tcall_pure (c_pair_numbers u v) ?_
    simp -dsimp [go_sem, hN]
    simp [cmpV, h0, h1]
end Go.Proofs.YtgcdpfpffalalaaGreatDoor

set_option linter.unusedSimpArgs false
set_option linter.unusedVariables false
set_option maxRecDepth 4000
namespace Go.Proofs.YtgcdpfpffalalaaGreatDoor
open Go Go.Abs Go.Cw

@[go_sem] theorem zero_int : zeroAV Tryz.prog 3 = some (I 0) := by kernel_rfl
@[go_sem] theorem zero_bool : zeroAV Tryz.prog 4 = some (Bo false) := by kernel_rfl
@[go_sem] theorem zero_Value : zeroAV Tryz.prog 41 = some (.agg [I 0, I 0, S ⟨#[]⟩]) := by kernel_rfl

theorem c_types_of (vars : List (Bytes × Int)) (e : Ex) (d : Nat) (hv : chkE e d = 0) (h : AHeap) (m : Nat) (hm : h[m]? = some (.map (kAV I vars))) :
    ACalls Tryz.prog 241 [.agg e.x, .mapr m] h fun r h' => r = .ret (.tuple [I (ofE vars e).1, I (ofE vars e).2]) ∧ h' = h := by
  refine acalls_introB Tryz.func241 rfl (by kernel_rfl) (by simp [Tryz.ntmps241]) ?_
  intro E hN hh hu hb hb' hua
  rw [Tryz.ntmps241] at hN
  refine awp_of_wpC _ _ _ ?_
  simp [go_sem] at hb
  have hml : m < h.length := (List.getElem?_eq_some_iff.1 hm).1
  have a1 : ∀ l : AHeap, (h ++ l)[m]? = h[m]? := fun l => List.getElem?_append_left hml
  simp -dsimp [go_sem, hN]
  refine cnd (fun h0 => ?_) (fun h0 => ?_) <;> simp at h0
  · have ho : ofE vars e = varT (kGet vars e.s) := by rw [ofE_eq, if_pos h0]
    rcases hk : kGet vars e.s with _ | ty
    · rw [hk] at ho
      simp -dsimp [go_sem, hN, a1, hm, hk]
      rw [ho]
      exact ⟨_, .refl _, h, by simp [go_sem], by simp [go_sem], by simp, by simp [hu, go_sem], rfl, rfl⟩
    · rw [hk] at ho
      simp -dsimp [go_sem, hN, a1, hm, hk]
      repeat refine ⟨by grind, ?_⟩
      refine cnd (fun h1 => ?_) (fun h1 => ?_) <;> simp at h1
      · simp -dsimp [go_sem, hN]
        rw [ho, varT, if_pos (by omega)]
        exact ⟨_, .refl _, h, by simp [go_sem], by simp [go_sem], by simp, by simp [hu, go_sem], rfl, rfl⟩
      · simp -dsimp [go_sem, hN]
        rw [ho, varT, if_neg (by omega)]
        exact ⟨_, .refl _, h, by simp [go_sem], by simp [go_sem], by simp, by simp [hu, go_sem], rfl, rfl⟩
  simp -dsimp [go_sem, hN]
  refine awp_loopA (α := List Int) e.args.length (fun n o => ((ofL vars e.args).1 = (ofL vars (e.args.drop n)).1 ∧ ((ofL vars e.args).1 = 0 → (ofL vars e.args).2 = o ++ (ofL vars (e.args.drop n)).2)) ∧ o.length = n) (fun n o => ⟨[(1, .mapr m), (2, .ptr h.length 0), (8, .own (h.length + 1) o.length), (39, .slice (e.args.map Ex.c)), (40, I e.args.length), (41, I n)], h ++ [.cells e.x, .arr 3 1 (o.map iRow)]⟩) [] (by simp) ((nil_wk E _ 8 3 1 rfl).trans ?_) ?_
  · exact (Wk.mk (by simp [hh]) (by simp [go_sem]) (by simp [hu, hUnder_ext hu, go_sem]) (by simp [go_sem]; omega))
  intro n o hn ⟨⟨hI1, hI2⟩, hol⟩
  have hw := wrapS hn hb.2.1
  simp -dsimp [go_sem, hN]
  refine cnd (fun hc => ?_) (fun hc => ?_) <;> simp at hc
  · have hlt : SizeOf.sizeOf e.args[n] < SizeOf.sizeOf e := Ex.arg_lt (List.getElem_mem hc)
    rw [drop_next hc, ofL] at hI1 hI2
    simp -dsimp [go_sem, hN, hc]
    refine tcall (c_types_of vars e.args[n] (d + 1) (chkE_args hv _ (List.getElem_mem hc)) _ m (by rw [a1]; exact hm)) ?_
    rintro r h' ⟨rfl, rfl⟩
    simp -dsimp [go_sem, hN]
    refine cnd (fun h1 => ?_) (fun h1 => ?_) <;> simp at h1
    · simp -dsimp [go_sem, hN]
      rw [if_pos h1] at hI1
      simp only at hI1
      have ho : ofE vars e = (0, (ofE vars e.args[n]).2) := by rw [ofE_eq vars e, if_neg h0, if_pos (by rw [hI1]; exact h1), hI1]
      rw [ho]
      exact ⟨_, .refl _, h, by simp [go_sem], by simp [go_sem], by simp, by simp [hu, go_sem], rfl, rfl⟩
    · rw [if_neg (by simpa using h1)] at hI1 hI2
      simp only at hI1 hI2
      simp -dsimp [go_sem, hN, hw]
      refine ⟨by omega, hc, o ++ [(ofE vars e.args[n]).1], ⟨⟨hI1, fun h2 => by rw [hI2 h2]; simp⟩, by simp; omega⟩, ?_⟩
      exact (Wk.mk (by simp [hh]) (by simp [go_sem]) (by simp [hu, hUnder_ext hu, go_sem]) (by simp [go_sem]; omega))
  rw [List.drop_eq_nil_of_le (by omega), ofL] at hI1 hI2
  simp only at hI1 hI2
  have hI3 := hI2 hI1
  rw [List.append_nil] at hI3
  have hoe := ofE_eq vars e
  rw [if_neg h0, hI1, if_neg (by simp), hI3] at hoe
  have har := chkE_arity hv
  simp -dsimp [go_sem, hN]
  refine cnd (fun h1 => ?_) (fun h1 => ?_) <;> simp at h1
  · rw [if_pos h1] at hoe
    have h2 : o.length = 2 := by
      have : arity e.op = 2 := by unfold arity; rw [if_neg (by omega), if_neg (by omega), if_neg (by omega)]
      omega
    obtain ⟨x, y, rfl⟩ : ∃ x y, o = [x, y] := by
      match o, h2 with
      | [x, y], _ => exact ⟨x, y, rfl⟩
    simp at hoe
    simp -dsimp [go_sem, hN]
    refine awp_drawQ 13 mixed (by kernel_rfl) (by kernel_rfl) ?_
    simp -dsimp [go_sem, hN, iRow]
    refine tgcall_pure (c_types_compared e.op x) (by simp) ?_
    simp -dsimp [go_sem, hN]
    repeat refine ⟨by grind, ?_⟩
    refine cnd (fun h3 => ?_) (fun h3 => ?_)
    · simp -dsimp [go_sem, hN]
      rw [hoe, if_pos (by simp at h3; grind)]
      exact ⟨_, .refl _, h, by simp [go_sem], by simp [go_sem], by simp, by simp [hu, go_sem], rfl, rfl⟩
    · simp -dsimp [go_sem, hN]
      rw [hoe, if_neg (by simp at h3; grind)]
      exact ⟨_, .refl _, h, by simp [go_sem], by simp [go_sem], by simp, by simp [hu, go_sem], rfl, rfl⟩
  rw [if_neg (by omega)] at hoe
  simp -dsimp [go_sem, hN]
  refine tcall_pure (c_types_signature e.op) ?_
  simp -dsimp [go_sem, hN]
  refine awp_loopN o.length (fun n => (o.drop n).all (fun t => decide (t = (sigOf e.op).1)) = o.all (fun t => decide (t = (sigOf e.op).1))) (fun n => ⟨[(13, I (sigOf e.op).1), (14, I (sigOf e.op).2), (89, .slice (o.map iRow)), (90, I o.length), (91, I n)], h⟩) (by simp) ((norm_wk E _).trans ?_) ?_
  · exact (Wk.mk (by simp [hh]) (by simp [go_sem]) (by simp [hu, hUnder_ext hu, go_sem]) (by simp [go_sem]; try omega))
  intro n hn hJ
  have hw := wrapS hn (by omega)
  simp -dsimp [go_sem, hN]
  refine cnd (fun hc => ?_) (fun hc => ?_) <;> simp at hc
  · rw [drop_next hc, List.all_cons] at hJ
    simp -dsimp [go_sem, hN, hc, iRow]
    refine cnd (fun h3 => ?_) (fun h3 => ?_) <;> simp at h3
    · simp -dsimp [go_sem, hN]
      rw [hoe, if_neg (by rw [← hJ]; simp [h3])]
      exact ⟨_, .refl _, h, by simp [go_sem], by simp [go_sem], by simp, by simp [hu, go_sem], rfl, rfl⟩
    · simp -dsimp [go_sem, hN, hw]
      refine ⟨hc, by simpa [h3] using hJ, ?_⟩
      exact (Wk.mk (by simp [hh]) (by simp [go_sem]) (by simp [hu, hUnder_ext hu, go_sem]) (by simp [go_sem]; try omega))
  · rw [List.drop_eq_nil_of_le (by omega)] at hJ
    simp -dsimp [go_sem, hN]
    rw [hoe, if_pos (by rw [← hJ]; rfl)]
    exact ⟨_, .refl _, h, by simp [go_sem], by simp [go_sem], by simp, by simp [hu, go_sem], rfl, rfl⟩
termination_by SizeOf.sizeOf e
end Go.Proofs.YtgcdpfpffalalaaGreatDoor

set_option linter.unusedSimpArgs false
set_option linter.unusedVariables false
set_option maxRecDepth 4000
set_option maxHeartbeats 2000000
namespace Go.Proofs.YtgcdpfpffalalaaGreatDoor
open Go Go.Abs Go.Cw

def stopAV (z : Stop) : AV := .iface 74 (.agg [I z.status, I z.code, .slice [], S z.miss])
@[simp] theorem norm_stop (h : AHeap) (z : Stop) : (stopAV z).norm h = stopAV z := by simp [stopAV, AV.norm, normL]
@[simp] theorem under_stop (n : Nat) (z : Stop) : (stopAV z).under n = true := by simp [stopAV, AV.under, underL]
/-- how a call ends that gives a value or stops -/
def endV : EV → AEnd
  | .ok v => .ret (.agg v.c)
  | .error z => .panic (stopAV z)
def endU : Except Stop Unit → AEnd
  | .ok _ => .ret (.tuple [])
  | .error z => .panic (stopAV z)

theorem c_interp_abort (code : Int) (h : AHeap) : ACalls Tryz.prog 93 [I code] h fun r h' => r = .panic (stopAV (ab code)) ∧ h' = h := by
  refine acalls_introB Tryz.func93 rfl (by kernel_rfl) (by simp [Tryz.ntmps93]) ?_
  intro E hN hh hu hb hb' hua
  rw [Tryz.ntmps93] at hN
  refine awp_of_wpC _ _ _ ?_
  simp -dsimp [go_sem, hN]
  exact ⟨_, .refl _, h, by simp [go_sem], hwk.refl _, Nat.le_refl _, hu, rfl, rfl⟩
theorem c_interp_integer (n : Int) : APure Tryz.prog 89 [I n] (.agg (vI n).c) := by
  refine apure_introB Tryz.func89 rfl (by kernel_rfl) (by simp [Tryz.ntmps89]) rfl ?_
  intro E h hN hh hu hb
  rw [Tryz.ntmps89] at hN
  refine awp_of_wpC _ _ _ ?_
  simp -dsimp [go_sem, hN]
  exact ⟨rfl, rfl, rfl⟩
theorem c_interp_truth (b : Bool) : APure Tryz.prog 126 [Bo b] (.agg (vB b).c) := by
  refine apure_introB Tryz.func126 rfl (by kernel_rfl) (by simp [Tryz.ntmps126]) rfl ?_
  intro E h hN hh hu hb
  rw [Tryz.ntmps126] at hN
  refine awp_of_wpC _ _ _ ?_
  simp -dsimp [go_sem, hN]
  refine cnd (fun h0 => ?_) (fun h0 => ?_)
  · subst h0
    simp -dsimp [go_sem, hN]
    exact ⟨rfl, rfl, rfl⟩
  · subst h0
    simp -dsimp [go_sem, hN]
    exact ⟨rfl, rfl, rfl⟩
theorem c_interp_must (b : Bool) (h : AHeap) : ACalls Tryz.prog 90 [Bo b] h fun r h' => r = (if b then .ret (.tuple []) else .panic (stopAV (ab 1009))) ∧ h' = h := by
  refine acalls_introB Tryz.func90 rfl (by kernel_rfl) (by simp [Tryz.ntmps90]) ?_
  intro E hN hh hu hb hb' hua
  rw [Tryz.ntmps90] at hN
  refine awp_of_wpC _ _ _ ?_
  simp -dsimp [go_sem, hN]
  refine cnd (fun h0 => ?_) (fun h0 => ?_) <;> simp at h0 <;> subst h0
  · simp -dsimp [go_sem, hN]
    refine tcall (c_interp_abort 1009 h) ?_
    rintro r h' ⟨rfl, rfl⟩
    simp -dsimp [go_sem, hN]
    exact ⟨_, .refl _, _, by simp, hwk.refl _, Nat.le_refl _, hu, rfl, rfl⟩
  · simp -dsimp [go_sem, hN]
    exact ⟨_, .refl _, _, by simp [go_sem], hwk.refl _, Nat.le_refl _, hu, rfl, rfl⟩
theorem c_interp_restart (k : Bytes) (h : AHeap) : ACalls Tryz.prog 141 [S k] h fun r h' => r = .panic (stopAV (rst k)) ∧ h' = h := by
  refine acalls_introB Tryz.func141 rfl (by kernel_rfl) (by simp [Tryz.ntmps141]) ?_
  intro E hN hh hu hb hb' hua
  rw [Tryz.ntmps141] at hN
  refine awp_of_wpC _ _ _ ?_
  simp -dsimp [go_sem, hN]
  exact ⟨_, .refl _, h, by simp [go_sem], hwk.refl _, Nat.le_refl _, hu, rfl, rfl⟩
/-- the end of a walk that stops -/
theorem c_interp_text (s : Bytes) (h : AHeap) : ACalls Tryz.prog 127 [S s] h fun r h' => r = endV (textS s) ∧ h' = h := by
  refine acalls_introB Tryz.func127 rfl (by kernel_rfl) (by simp [Tryz.ntmps127]) ?_
  intro E hN hh hu hb hb' hua
  rw [Tryz.ntmps127] at hN
  refine awp_of_wpC _ _ _ ?_
  simp -dsimp [go_sem, hN]
  refine cnd (fun h0 => ?_) (fun h0 => ?_) <;> simp at h0
  · simp -dsimp [go_sem, hN]
    refine tcall (c_interp_abort 1006 _) ?_
    rintro r h' ⟨rfl, rfl⟩
    simp -dsimp [go_sem, hN]
    rw [textS, if_pos (by omega)]
    exact ⟨_, .refl _, _, by simp [go_sem], by simp [go_sem], by simp, by simp [hu, go_sem], rfl, rfl⟩
  · simp -dsimp [go_sem, hN]
    rw [textS, if_neg (by omega)]
    exact ⟨_, .refl _, h, by simp [go_sem], by simp [go_sem], by simp, by simp [hu, go_sem], rfl, rfl⟩
theorem c_interp_exact (r : Int × Int) (h : AHeap) : ACalls Tryz.prog 124 [I r.1, I r.2] h fun x h' => x = endV (exactS r) ∧ h' = h := by
  refine acalls_introB Tryz.func124 rfl (by kernel_rfl) (by simp [Tryz.ntmps124]) ?_
  intro E hN hh hu hb hb' hua
  rw [Tryz.ntmps124] at hN
  refine awp_of_wpC _ _ _ ?_
  simp -dsimp [go_sem, hN]
  refine cnd (fun h0 => ?_) (fun h0 => ?_) <;> simp at h0
  · simp -dsimp [go_sem, hN]
    refine tcall_pure (c_interp_integer r.1) ?_
    simp -dsimp [go_sem, hN]
    rw [exactS, if_pos h0]
    exact ⟨_, .refl _, h, by simp [go_sem], by simp [go_sem], by simp, by simp [hu, go_sem], rfl, rfl⟩
  simp -dsimp [go_sem, hN]
  refine cnd (fun h1 => ?_) (fun h1 => ?_) <;> simp at h1
  · simp -dsimp [go_sem, hN]
    refine tcall (c_interp_abort 1002 _) ?_
    rintro r' h' ⟨rfl, rfl⟩
    simp -dsimp [go_sem, hN]
    rw [exactS, if_neg h0, if_pos h1]
    exact ⟨_, .refl _, h, by simp [go_sem], by simp [go_sem], by simp, by simp [hu, go_sem], rfl, rfl⟩
  · simp -dsimp [go_sem, hN]
    refine tcall (c_interp_abort 1001 _) ?_
    rintro r' h' ⟨rfl, rfl⟩
    simp -dsimp [go_sem, hN]
    rw [exactS, if_neg h0, if_neg h1]
    exact ⟨_, .refl _, h, by simp [go_sem], by simp [go_sem], by simp, by simp [hu, go_sem], rfl, rfl⟩
/-- a walk that ends as a call has -/
theorem c_interp_arithmetic (op a b : Int) (h : AHeap) : ACalls Tryz.prog 130 [I op, I a, I b] h fun x h' => x = endV (arithS op a b) ∧ h' = h := by
  refine acalls_introB Tryz.func130 rfl (by kernel_rfl) (by simp [Tryz.ntmps130]) ?_
  intro E hN hh hu hb hb' hua
  rw [Tryz.ntmps130] at hN
  refine awp_of_wpC _ _ _ ?_
  simp -dsimp [go_sem, hN]
  refine cnd (fun h0 => ?_) (fun h0 => ?_) <;> simp at h0
  · simp -dsimp [go_sem, hN]
    refine tcall_pure (c_num_Add a b) ?_
    simp -dsimp [go_sem, hN]
    refine tcall (c_interp_exact (numAdd a b) _) ?_
    rintro r' h' ⟨rfl, rfl⟩
    rw [arithS,  if_pos h0]
    cases exactS (numAdd a b) <;> simp -dsimp [go_sem, hN, endV] <;> exact ⟨_, .refl _, h, by simp [go_sem], by simp [go_sem], by simp, by simp [hu, go_sem], rfl, rfl⟩
  simp -dsimp [go_sem, hN]
  refine cnd (fun h1 => ?_) (fun h1 => ?_) <;> simp at h1
  · simp -dsimp [go_sem, hN]
    refine tcall_pure (c_num_Sub a b) ?_
    simp -dsimp [go_sem, hN]
    refine tcall (c_interp_exact (numSub a b) _) ?_
    rintro r' h' ⟨rfl, rfl⟩
    rw [arithS, if_neg h0, if_pos h1]
    cases exactS (numSub a b) <;> simp -dsimp [go_sem, hN, endV] <;> exact ⟨_, .refl _, h, by simp [go_sem], by simp [go_sem], by simp, by simp [hu, go_sem], rfl, rfl⟩
  simp -dsimp [go_sem, hN]
  refine cnd (fun h2 => ?_) (fun h2 => ?_) <;> simp at h2
  · simp -dsimp [go_sem, hN]
    refine tcall_pure (c_num_Mul a b) ?_
    simp -dsimp [go_sem, hN]
    refine tcall (c_interp_exact (numMul a b) _) ?_
    rintro r' h' ⟨rfl, rfl⟩
    rw [arithS, if_neg h0, if_neg h1, if_pos h2]
    cases exactS (numMul a b) <;> simp -dsimp [go_sem, hN, endV] <;> exact ⟨_, .refl _, h, by simp [go_sem], by simp [go_sem], by simp, by simp [hu, go_sem], rfl, rfl⟩
  simp -dsimp [go_sem, hN]
  refine cnd (fun h3 => ?_) (fun h3 => ?_) <;> simp at h3
  · simp -dsimp [go_sem, hN]
    refine tcall_pure (c_num_Div a b) ?_
    simp -dsimp [go_sem, hN]
    refine tcall (c_interp_exact (numDiv a b) _) ?_
    rintro r' h' ⟨rfl, rfl⟩
    rw [arithS, if_neg h0, if_neg h1, if_neg h2, if_pos h3]
    cases exactS (numDiv a b) <;> simp -dsimp [go_sem, hN, endV] <;> exact ⟨_, .refl _, h, by simp [go_sem], by simp [go_sem], by simp, by simp [hu, go_sem], rfl, rfl⟩
  simp -dsimp [go_sem, hN]
  refine tcall_pure (c_num_Mod a b) ?_
  simp -dsimp [go_sem, hN]
  refine tcall (c_interp_exact (numMod a b) _) ?_
  rintro r' h' ⟨rfl, rfl⟩
  rw [arithS, if_neg h0, if_neg h1, if_neg h2, if_neg h3]
  cases exactS (numMod a b) <;> simp -dsimp [go_sem, hN, endV] <;> exact ⟨_, .refl _, h, by simp [go_sem], by simp [go_sem], by simp, by simp [hu, go_sem], rfl, rfl⟩

theorem c_must (b : Bool) (h : AHeap) : ACalls Tryz.prog 90 [Bo b] h fun r h' => ((b = true ∧ r = .ret (.tuple [])) ∨ (b = false ∧ r = .panic (stopAV (ab 1009)))) ∧ h' = h :=
  (c_interp_must b h).mono (by
    rintro r h' ⟨rfl, rfl⟩
    cases b
    · exact ⟨.inr ⟨rfl, rfl⟩, rfl⟩
    · exact ⟨.inl ⟨rfl, rfl⟩, rfl⟩)

theorem c_interp_compare (op : Int) (a b : V) (h : AHeap) : ACalls Tryz.prog 131 [I op, .agg a.c, .agg b.c] h fun x h' => x = endV (compS op a b) ∧ h' = h := by
  refine acalls_introB Tryz.func131 rfl (by kernel_rfl) (by simp [Tryz.ntmps131]) ?_
  intro E hN hh hu hb hb' hua
  rw [Tryz.ntmps131] at hN
  refine awp_of_wpC _ _ _ ?_
  simp -dsimp [go_sem, hN]
  repeat refine ⟨by grind, ?_⟩
  refine tcall (c_must _ _) ?_
  rintro r h' ⟨⟨hm, rfl⟩ | ⟨hm, rfl⟩, rfl⟩ <;> simp at hm
  rotate_left
  · simp -dsimp [go_sem, hN]
    rw [compS, if_neg (by grind)]
    exact ⟨_, .refl _, h, by simp [go_sem], by simp [go_sem], by simp, by simp [hu, go_sem], rfl, rfl⟩
  rw [compS, if_pos (by grind)]
  simp -dsimp [go_sem, hN]
  refine tcall_pure (c_value_Compare a b) ?_
  simp -dsimp [go_sem, hN]
  refine cnd (fun h0 => ?_) (fun h0 => ?_) <;> simp at h0
  · simp -dsimp [go_sem, hN]
    refine tcall_pure (c_interp_truth (decide (cmpV a b = 0))) ?_
    simp -dsimp [go_sem, hN]
    rw [cmpBy,  if_pos h0]
    exact ⟨_, .refl _, h, by simp [go_sem], by simp [go_sem], by simp, by simp [hu, go_sem], rfl, rfl⟩
  simp -dsimp [go_sem, hN]
  refine cnd (fun h1 => ?_) (fun h1 => ?_) <;> simp at h1
  · simp -dsimp [go_sem, hN]
    refine tcall_pure (c_interp_truth (!decide (cmpV a b = 0))) ?_
    simp -dsimp [go_sem, hN]
    rw [cmpBy, if_neg h0, if_pos h1]
    exact ⟨_, .refl _, h, by simp [go_sem], by simp [go_sem], by simp, by simp [hu, go_sem], rfl, rfl⟩
  simp -dsimp [go_sem, hN]
  refine cnd (fun h2 => ?_) (fun h2 => ?_) <;> simp at h2
  · simp -dsimp [go_sem, hN]
    refine tcall_pure (c_interp_truth (decide (cmpV a b < 0))) ?_
    simp -dsimp [go_sem, hN]
    rw [cmpBy, if_neg h0, if_neg h1, if_pos h2]
    exact ⟨_, .refl _, h, by simp [go_sem], by simp [go_sem], by simp, by simp [hu, go_sem], rfl, rfl⟩
  simp -dsimp [go_sem, hN]
  refine cnd (fun h3 => ?_) (fun h3 => ?_) <;> simp at h3
  · simp -dsimp [go_sem, hN]
    refine tcall_pure (c_interp_truth (decide (cmpV a b ≤ 0))) ?_
    simp -dsimp [go_sem, hN]
    rw [cmpBy, if_neg h0, if_neg h1, if_neg h2, if_pos h3]
    exact ⟨_, .refl _, h, by simp [go_sem], by simp [go_sem], by simp, by simp [hu, go_sem], rfl, rfl⟩
  simp -dsimp [go_sem, hN]
  refine cnd (fun h4 => ?_) (fun h4 => ?_) <;> simp at h4
  · simp -dsimp [go_sem, hN]
    refine tcall_pure (c_interp_truth (decide (0 < cmpV a b))) ?_
    simp -dsimp [go_sem, hN]
    rw [cmpBy, if_neg h0, if_neg h1, if_neg h2, if_neg h3, if_pos h4]
    exact ⟨_, .refl _, h, by simp [go_sem], by simp [go_sem], by simp, by simp [hu, go_sem], rfl, rfl⟩
  simp -dsimp [go_sem, hN]
  refine tcall_pure (c_interp_truth (decide (0 ≤ cmpV a b))) ?_
  simp -dsimp [go_sem, hN]
  rw [cmpBy, if_neg h0, if_neg h1, if_neg h2, if_neg h3, if_neg h4]
  exact ⟨_, .refl _, h, by simp [go_sem], by simp [go_sem], by simp, by simp [hu, go_sem], rfl, rfl⟩

theorem c_interp_binary (op : Int) (a b : V) (h : AHeap) (hS : a.s.size + b.s.size ≤ 68719476736) : ACalls Tryz.prog 92 [I op, .agg a.c, .agg b.c] h fun x h' => x = endV (binS op a b) ∧ h' = h := by
  refine acalls_introB Tryz.func92 rfl (by kernel_rfl) (by simp [Tryz.ntmps92]) ?_
  intro E hN hh hu hb hb' hua
  rw [Tryz.ntmps92] at hN
  refine awp_of_wpC _ _ _ ?_
  simp -dsimp [go_sem, hN]
  refine cnd (fun h0 => ?_) (fun h0 => ?_) <;> simp at h0
  · simp -dsimp [go_sem, hN, decide_eq_true h0]
    repeat refine ⟨by grind, ?_⟩
    refine tcall (c_must _ _) ?_
    rintro r h' ⟨⟨hm, rfl⟩ | ⟨hm, rfl⟩, rfl⟩ <;> simp at hm
    · simp -dsimp [go_sem, hN]
      refine tcall (c_interp_arithmetic op a.n b.n _) ?_
      rintro r' h' ⟨rfl, rfl⟩
      rw [binS, if_pos (by omega), if_pos (by grind)]
      cases arithS op a.n b.n <;> simp -dsimp [go_sem, hN, endV] <;> exact ⟨_, .refl _, h, by simp [go_sem], by simp [go_sem], by simp, by simp [hu, go_sem], rfl, rfl⟩
    · simp -dsimp [go_sem, hN]
      rw [binS, if_pos (by omega), if_neg (by grind)]
      exact ⟨_, .refl _, h, by simp [go_sem], by simp [go_sem], by simp, by simp [hu, go_sem], rfl, rfl⟩
  simp -dsimp [go_sem, hN]
  refine cnd (fun h1 => ?_) (fun h1 => ?_) <;> simp at h1
  · simp -dsimp [go_sem, hN, decide_eq_true h1]
    repeat refine ⟨by grind, ?_⟩
    refine tcall (c_must _ _) ?_
    rintro r h' ⟨⟨hm, rfl⟩ | ⟨hm, rfl⟩, rfl⟩ <;> simp at hm
    · simp -dsimp [go_sem, hN]
      refine tcall (c_interp_arithmetic op a.n b.n _) ?_
      rintro r' h' ⟨rfl, rfl⟩
      rw [binS, if_pos (by omega), if_pos (by grind)]
      cases arithS op a.n b.n <;> simp -dsimp [go_sem, hN, endV] <;> exact ⟨_, .refl _, h, by simp [go_sem], by simp [go_sem], by simp, by simp [hu, go_sem], rfl, rfl⟩
    · simp -dsimp [go_sem, hN]
      rw [binS, if_pos (by omega), if_neg (by grind)]
      exact ⟨_, .refl _, h, by simp [go_sem], by simp [go_sem], by simp, by simp [hu, go_sem], rfl, rfl⟩
  simp -dsimp [go_sem, hN]
  refine cnd (fun h2 => ?_) (fun h2 => ?_) <;> simp at h2
  · simp -dsimp [go_sem, hN, decide_eq_true h2]
    repeat refine ⟨by grind, ?_⟩
    refine tcall (c_must _ _) ?_
    rintro r h' ⟨⟨hm, rfl⟩ | ⟨hm, rfl⟩, rfl⟩ <;> simp at hm
    · simp -dsimp [go_sem, hN]
      refine tcall (c_interp_arithmetic op a.n b.n _) ?_
      rintro r' h' ⟨rfl, rfl⟩
      rw [binS, if_pos (by omega), if_pos (by grind)]
      cases arithS op a.n b.n <;> simp -dsimp [go_sem, hN, endV] <;> exact ⟨_, .refl _, h, by simp [go_sem], by simp [go_sem], by simp, by simp [hu, go_sem], rfl, rfl⟩
    · simp -dsimp [go_sem, hN]
      rw [binS, if_pos (by omega), if_neg (by grind)]
      exact ⟨_, .refl _, h, by simp [go_sem], by simp [go_sem], by simp, by simp [hu, go_sem], rfl, rfl⟩
  simp -dsimp [go_sem, hN]
  refine cnd (fun h3 => ?_) (fun h3 => ?_) <;> simp at h3
  · simp -dsimp [go_sem, hN, decide_eq_true h3]
    repeat refine ⟨by grind, ?_⟩
    refine tcall (c_must _ _) ?_
    rintro r h' ⟨⟨hm, rfl⟩ | ⟨hm, rfl⟩, rfl⟩ <;> simp at hm
    · simp -dsimp [go_sem, hN]
      refine tcall (c_interp_arithmetic op a.n b.n _) ?_
      rintro r' h' ⟨rfl, rfl⟩
      rw [binS, if_pos (by omega), if_pos (by grind)]
      cases arithS op a.n b.n <;> simp -dsimp [go_sem, hN, endV] <;> exact ⟨_, .refl _, h, by simp [go_sem], by simp [go_sem], by simp, by simp [hu, go_sem], rfl, rfl⟩
    · simp -dsimp [go_sem, hN]
      rw [binS, if_pos (by omega), if_neg (by grind)]
      exact ⟨_, .refl _, h, by simp [go_sem], by simp [go_sem], by simp, by simp [hu, go_sem], rfl, rfl⟩
  simp -dsimp [go_sem, hN]
  refine cnd (fun h4 => ?_) (fun h4 => ?_) <;> simp at h4
  · simp -dsimp [go_sem, hN]
    repeat refine ⟨by grind, ?_⟩
    refine tcall (c_must _ _) ?_
    rintro r h' ⟨⟨hm, rfl⟩ | ⟨hm, rfl⟩, rfl⟩ <;> simp at hm
    · simp -dsimp [go_sem, hN]
      refine tcall (c_interp_arithmetic op a.n b.n _) ?_
      rintro r' h' ⟨rfl, rfl⟩
      rw [binS, if_pos (by omega), if_pos (by grind)]
      cases arithS op a.n b.n <;> simp -dsimp [go_sem, hN, endV] <;> exact ⟨_, .refl _, h, by simp [go_sem], by simp [go_sem], by simp, by simp [hu, go_sem], rfl, rfl⟩
    · simp -dsimp [go_sem, hN]
      rw [binS, if_pos (by omega), if_neg (by grind)]
      exact ⟨_, .refl _, h, by simp [go_sem], by simp [go_sem], by simp, by simp [hu, go_sem], rfl, rfl⟩
  simp -dsimp [go_sem, hN]
  refine cnd (fun h5 => ?_) (fun h5 => ?_) <;> simp at h5
  · simp -dsimp [go_sem, hN]
    repeat refine ⟨by grind, ?_⟩
    refine tcall (c_must _ _) ?_
    rintro r h' ⟨⟨hm, rfl⟩ | ⟨hm, rfl⟩, rfl⟩ <;> simp at hm
    rotate_left
    · simp -dsimp [go_sem, hN]
      rw [binS, if_neg (by omega), if_pos h5, if_neg (by grind)]
      exact ⟨_, .refl _, h, by simp [go_sem], by simp [go_sem], by simp, by simp [hu, go_sem], rfl, rfl⟩
    rw [binS, if_neg (by omega), if_pos h5, if_pos (by grind)]
    simp -dsimp [go_sem, hN]
    repeat refine ⟨by grind, ?_⟩
    refine tcall_pure (c_interp_truth (decide (a.n = 1) && decide (b.n = 1))) ?_
    simp -dsimp [go_sem, hN]
    exact ⟨_, .refl _, h, by simp [go_sem], by simp [go_sem], by simp, by simp [hu, go_sem], rfl, rfl⟩
  simp -dsimp [go_sem, hN]
  refine cnd (fun h6 => ?_) (fun h6 => ?_) <;> simp at h6
  · simp -dsimp [go_sem, hN]
    repeat refine ⟨by grind, ?_⟩
    refine tcall (c_must _ _) ?_
    rintro r h' ⟨⟨hm, rfl⟩ | ⟨hm, rfl⟩, rfl⟩ <;> simp at hm
    rotate_left
    · simp -dsimp [go_sem, hN]
      rw [binS, if_neg (by omega), if_neg h5, if_pos h6, if_neg (by grind)]
      exact ⟨_, .refl _, h, by simp [go_sem], by simp [go_sem], by simp, by simp [hu, go_sem], rfl, rfl⟩
    rw [binS, if_neg (by omega), if_neg h5, if_pos h6, if_pos (by grind)]
    simp -dsimp [go_sem, hN]
    repeat refine ⟨by grind, ?_⟩
    refine tcall_pure (c_interp_truth (decide (a.n = 1) || decide (b.n = 1))) ?_
    simp -dsimp [go_sem, hN]
    exact ⟨_, .refl _, h, by simp [go_sem], by simp [go_sem], by simp, by simp [hu, go_sem], rfl, rfl⟩
  simp -dsimp [go_sem, hN]
  refine cnd (fun h7 => ?_) (fun h7 => ?_) <;> simp at h7
  · simp -dsimp [go_sem, hN]
    repeat refine ⟨by grind, ?_⟩
    refine tcall (c_must _ _) ?_
    rintro r h' ⟨⟨hm, rfl⟩ | ⟨hm, rfl⟩, rfl⟩ <;> simp at hm
    rotate_left
    · simp -dsimp [go_sem, hN]
      rw [binS, if_neg (by omega), if_neg h5, if_neg h6, if_pos h7, if_neg (by grind)]
      exact ⟨_, .refl _, h, by simp [go_sem], by simp [go_sem], by simp, by simp [hu, go_sem], rfl, rfl⟩
    rw [binS, if_neg (by omega), if_neg h5, if_neg h6, if_pos h7, if_pos (by grind)]
    simp -dsimp [go_sem, hN]
    refine ⟨hS, ?_⟩
    refine tcall (c_interp_text (a.s ++ b.s) _) ?_
    rintro r' h' ⟨rfl, rfl⟩
    cases textS (a.s ++ b.s) <;> simp -dsimp [go_sem, hN, endV] <;> exact ⟨_, .refl _, h, by simp [go_sem], by simp [go_sem], by simp, by simp [hu, go_sem], rfl, rfl⟩
  simp -dsimp [go_sem, hN]
  refine tcall (c_interp_compare op a b _) ?_
  rintro r' h' ⟨rfl, rfl⟩
  rw [binS, if_neg (by omega), if_neg h5, if_neg h6, if_neg h7]
  cases compS op a b <;> simp -dsimp [go_sem, hN, endV] <;> exact ⟨_, .refl _, h, by simp [go_sem], by simp [go_sem], by simp, by simp [hu, go_sem], rfl, rfl⟩
end Go.Proofs.YtgcdpfpffalalaaGreatDoor
