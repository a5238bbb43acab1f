/- Part 28 of a proof: W48, OP, LB, OR, LE -/
import Derived.Test.YtcmbmfmpelnimaaGreatDoorRows
import Derived.KernelRfl
import Derived.Test.YtcmbmfmpelnimaaGreatDoorCards
import Derived.Test.YtcmbmfmpelnimaaGreatDoorTie
import Derived.ProofKit
import Derived.OpenShut
import Derived.Carry
import Derived.Deep.DeepHandedRow
import Derived.Lib.LaidTab
import Derived.Stop.LaidErr
import Derived.Test.YtcmbmfmpelnimaaGreatDoorQ11
import Derived.Test.YtcmbmfmpelnimaaGreatDoorQ14
import Derived.Test.YtcmbmfmpelnimaaGreatDoorQ18
import Derived.Test.YtcmbmfmpelnimaaGreatDoorQ21
import Derived.Test.YtcmbmfmpelnimaaGreatDoorQ22
import Derived.Test.YtcmbmfmpelnimaaGreatDoorQ25
import Derived.Test.YtcmbmfmpelnimaaGreatDoorQ26
import Derived.Test.YtcmbmfmpelnimaaGreatDoorQ27
set_option linter.all false

set_option maxRecDepth 4000
set_option maxHeartbeats 4000000
namespace Go.Proofs.YtcmbmfmpelnimaaGreatDoor
open Go Go.Abs Go.Cw
section
attribute [local go_sem] RM.c
theorem fmt_ref : ∀ n, i64 n → APure Tryz.prog 205 [I n] (S (fmtI n)) := fun n hn => c_ref01_Format n hn
theorem c_ref15_Run (p : Proc) (args : List V) (st : List Pr) (ft : Foot) (hI : RunIn fmtI p args st) : APure Tryz.prog 11 [.agg p.c, .slice (args.map V.c), .slice (st.map Pr.c), .agg ft.c] (.agg (runS fmtI p args st ft).c) := by
  refine apure_introB Tryz.func11 rfl (by kernel_rfl) (by simp [Tryz.ntmps11]) rfl ?_
  intro E h hN hh hu hb
  rw [Tryz.ntmps11] at hN
  refine awp_of_wpC _ _ _ ?_
  simp [go_sem] at hb
  rw [← runR_eq hI]
  have hcond : (costErr p ≠ 0 ∨ argsErr p args ≠ 0 ∨ stateOk st = false ∨ footOk ft.all ft.reads ft.writes = false) ↔ ¬ runOk p args st ft := by unfold runOk; simp only [Decidable.not_not]
  simp -dsimp [go_sem, hN]
  refine tcall_pure (c_ref13_Check p) ?_
  simp -dsimp [go_sem, hN]
  refine tgcall_pure (c_ref11_Args p args) (by simp) ?_
  simp -dsimp [go_sem, hN]
  refine tgcall_pure (c_ref06_Valid st) (by simp) ?_
  simp -dsimp [go_sem, hN]
  refine tgcall_pure (c_ref15_ValidFoot ft) (by simp) ?_
  simp -dsimp [go_sem, hN]
  repeat refine ⟨by grind, ?_⟩
  refine cnd (fun h0 => ?_) (fun h0 => ?_) <;> simp at h0
  · have e1 : runR fmtI p args st ft = wrongE := by unfold runR; rw [if_pos (by grind)]
    rw [e1]
    simp -dsimp [go_sem, hN]
    refine tcall_pure c_ref15_nothing ?_
    simp -dsimp [go_sem, hN]
  have hok : runOk p args st ft := by rw [runOk_iff]; grind
  have hok' := (runOk_iff _ _ _ _).1 hok
  have hlen := (argsErr_ok hok'.2.1).1
  have hfew := valid_few (cost_valid hok'.1)
  have e1 : runR fmtI p args st ft = doneR (blkR (cfgR fmtI st ft) p.body (rm0 p args)) := by unfold runR; rw [if_neg hok]
  rw [e1]
  simp -dsimp [go_sem, hN]
  refine awp_loopA (α := List Pr) args.length (fun n vs => setArgsR (p.params.drop n) (args.drop n) vs = setArgsR p.params args [] ∧ vs.length ≤ n) (fun n vs => ⟨[(1, .slice (args.map V.c)), (4, P0 h.length), (8, P0 (h.length + 2)), (9, P0 (h.length + 3)), (10, I n)], h ++ [.cells p.c, .cells ft.c, effZ, .cells (RM.c (cfgR fmtI st ft) ⟨vs, [], 0, 0, [], [], [], em, 0⟩)]⟩) [] (by simp) (Wk.mk (by simp [hh]) (by simp [go_sem]) (by simp [hu, hUnder_ext hu, go_sem]) (by simp [go_sem])) ?_
  rintro n vs hn ⟨hI2, hvl⟩
  have hw := wrapS hn (show _ ≤ 68719476736 by omega)
  simp -dsimp [go_sem, hN]
  refine cnd (fun hc => ?_) (fun hc => ?_) <;> simp at hc
  · have hc2 : n < p.params.length := by omega
    rw [drop_next hc, drop_next hc2, setArgsR] at hI2
    simp -dsimp [go_sem, hN, hc, hc2]
    refine awp_drawQ 13 mixed (by kernel_rfl) (by kernel_rfl) ?_
    simp -dsimp [go_sem, hN, hc, hc2]
    refine tcall_pure (c_ref15_set vs ⟨p.params[n].name, args[n]⟩ (by omega)) ?_
    simp -dsimp [go_sem, hN, hw]
    have := setR_len vs ⟨p.params[n].name, args[n]⟩
    exact ⟨_, ⟨hI2, by omega⟩, (Wk.mk (by simp [hh]) (by simp [go_sem]) (by simp [hu, hUnder_ext hu, go_sem]) (by simp [go_sem]))⟩
  · rw [List.drop_eq_nil_of_le (show args.length ≤ n by omega), List.drop_eq_nil_of_le (show p.params.length ≤ n by omega), show setArgsR [] [] vs = vs by simp [setArgsR]] at hI2
    subst hI2
    have hsi := setArgsR_inv p.params args [] hI.args (by simp)
    have hRI : RInv 0 0 (rm0 p args) := ⟨hsi.1, by simp, by simp, by simp, by simp, by simp, by simp, by have := hsi.2; simp at this ⊢; omega, by simp⟩
    have hC : rngC (cfgR fmtI st ft) := fun q hq => hI.st q hq
    simp -dsimp [go_sem, hN]
    refine tcall_pure (c_ref15_block (cfgR fmtI st ft) hC hI.fmt fmt_ref p.body 1 (rm0 p args) (cost_okL hok'.1) (cost_goS hok'.1 hI.body) hRI rfl) ?_
    obtain ⟨M, hM⟩ : ∃ M, blkR (cfgR fmtI st ft) p.body (rm0 p args) = M := ⟨_, rfl⟩
    rw [hM]
    simp -dsimp [go_sem, hN]
    refine tcall_pure (c_ref15_running (cfgR fmtI st ft) M) ?_
    simp -dsimp [go_sem, hN]
    refine cnd (fun h1 => ?_) (fun h1 => ?_) <;> simp at h1
    · simp -dsimp [go_sem, hN]
      refine tcall_pure (c_ref15_ended (cfgR fmtI st ft) M) ?_
      simp -dsimp [go_sem, hN, doneR, h1]
    · simp -dsimp [go_sem, hN]
      refine tcall_pure (c_ref15_Commit (cfgR fmtI st ft) M) ?_
      simp -dsimp [go_sem, hN, doneR, h1]
theorem c_ref15_Free (p : Proc) (args : List V) (st : List Pr) (hI : RunIn fmtI p args st) : APure Tryz.prog 13 [.agg p.c, .slice (args.map V.c), .slice (st.map Pr.c)] (.agg (runS fmtI p args st ⟨true, [], []⟩).c) := by
  refine apure_introB Tryz.func13 rfl (by kernel_rfl) (by simp [Tryz.ntmps13]) rfl ?_
  intro E h hN hh hu hb
  rw [Tryz.ntmps13] at hN
  refine awp_of_wpC _ _ _ ?_
  simp -dsimp [go_sem, hN]
  refine tcall_pure (c_ref15_Run p args st ⟨true, [], []⟩ hI) ?_
  simp -dsimp [go_sem, hN]
theorem c_ref15_validVar (v : V) : APure Tryz.prog 55 [.agg v.c] (Bo (varOk v.k v.n v.s)) := by
  refine apure_introB Tryz.func55 rfl (by kernel_rfl) (by simp [Tryz.ntmps55]) rfl ?_
  intro E h hN hh hu hb
  rw [Tryz.ntmps55] at hN
  refine awp_of_wpC _ _ _ ?_
  simp -dsimp [go_sem, hN]
  repeat refine ⟨by grind, ?_⟩
  refine tgcall_pure (c_ref05_Valid v.k v.n v.s) (by simp) ?_
  simp -dsimp [go_sem, hN]
  have h3 : v.k = 3 → valOk v.k v.n v.s = false := fun g => by unfold valOk; simp [g]
  unfold varOk
  grind
theorem c_ref15_Eval (e : Ex) (vars st : List Pr) (ft : Foot) (hI : EvIn fmtI e vars st) : APure Tryz.prog 16 [.agg e.x, .slice (vars.map Pr.c), .slice (st.map Pr.c), .agg ft.c] (.tuple [.agg (evalS fmtI e vars st ft).1.c, .agg (evalS fmtI e vars st ft).2.c]) := by
  refine apure_introB Tryz.func16 rfl (by kernel_rfl) (by simp [Tryz.ntmps16]) rfl ?_
  intro E h hN hh hu hb
  rw [Tryz.ntmps16] at hN
  refine awp_of_wpC _ _ _ ?_
  simp [go_sem] at hb
  rw [← evalR_eq hI]
  simp -dsimp [go_sem, hN]
  refine tcall_pure (c_ref08_ValidExpr e) ?_
  simp -dsimp [go_sem, hN]
  refine tgcall_pure (c_ref06_Valid st) (by simp) ?_
  simp -dsimp [go_sem, hN]
  refine tgcall_pure (c_ref15_ValidFoot ft) (by simp) ?_
  simp -dsimp [go_sem, hN]
  repeat refine ⟨by grind, ?_⟩
  refine cnd (fun h0 => ?_) (fun h0 => ?_) <;> simp at h0
  · have e1 : evalR fmtI e vars st ft = (V.nil, wrongE) := by unfold evalR; rw [if_neg (fun g => by have := evOk_iff.1 g.1; grind)]
    rw [e1]
    simp -dsimp [go_sem, hN]
    refine tcall_pure c_ref15_nothing ?_
    simp -dsimp [go_sem, hN, V.nil]
  have hok : evOk e st ft := by rw [evOk_iff]; grind
  have hok' := evOk_iff.1 hok
  simp -dsimp [go_sem, hN]
  refine awp_loopN vars.length (fun n => varsOk (vars.drop n) = varsOk vars) (fun n => ⟨[(1, .slice (vars.map Pr.c)), (2, .slice (st.map Pr.c)), (4, P0 h.length), (7, P0 (h.length + 1)), (8, P0 (h.length + 2)), (9, P0 (h.length + 3)), (10, I n)], h ++ [.cells e.x, .cells ft.c, .cells [I 0, I 0, S em], effZ]⟩) (by simp) (Wk.mk (by simp [hh]) (by simp [go_sem]) (by simp [hu, hUnder_ext hu, go_sem]) (by simp [go_sem])) ?_
  intro n hn hI2
  have hw := wrapS hn (show _ ≤ 68719476736 by first | exact hb.2.1.1 | exact hb.2.1 | omega)
  simp -dsimp [go_sem, hN]
  refine cnd (fun hc => ?_) (fun hc => ?_) <;> simp at hc
  · rw [drop_next hc] at hI2
    have e3 : varsOk (vars[n] :: vars.drop (n + 1)) = (varOk vars[n].v.k vars[n].v.n vars[n].v.s && varsOk (vars.drop (n + 1))) := rfl
    rw [e3] at hI2
    simp -dsimp [go_sem, hN, hc]
    refine tcall_pure (c_ref15_validVar vars[n].v) ?_
    simp -dsimp [go_sem, hN]
    refine cnd (fun h1 => ?_) (fun h1 => ?_) <;> simp at h1
    · have e1 : evalR fmtI e vars st ft = (V.nil, wrongE) := by unfold evalR; rw [if_neg (fun g => by have := g.2; rw [← hI2, h1] at this; simp at this)]
      rw [e1]
      simp -dsimp [go_sem, hN]
      refine tcall_pure c_ref15_nothing ?_
      simp -dsimp [go_sem, hN, V.nil]
    · simp -dsimp [go_sem, hN, hw]
      exact ⟨hc, by simpa [h1] using hI2, (Wk.mk (by simp [hh]) (by simp [go_sem]) (by simp [hu, hUnder_ext hu, go_sem]) (by simp [go_sem]))⟩
  · rw [List.drop_eq_nil_of_le (by omega)] at hI2
    have hvo : varsOk vars = true := by rw [← hI2]; rfl
    have e1 : evalR fmtI e vars st ft = if (evR (cfgR fmtI st ft) e (rmV vars)).2.st ≠ 0 then (V.nil, doneR (evR (cfgR fmtI st ft) e (rmV vars)).2) else ((evR (cfgR fmtI st ft) e (rmV vars)).1, doneR (evR (cfgR fmtI st ft) e (rmV vars)).2) := by unfold evalR; rw [if_pos ⟨hok, hvo⟩]
    rw [e1]
    have hC : rngC (cfgR fmtI st ft) := fun q hq => hI.st q hq
    have hnd := chkE_nodes e 1 12 hok'.1 (by omega)
    have hRI : RInv (0 + nodes e) 0 (rmV vars) := ⟨hI.vars, by simp, by simp, by simp, by simp; omega, by simp, by simp, by have := hI.len; simp; omega, by simp⟩
    simp -dsimp [go_sem, hN]
    refine tcall_pure (c_ref15_eval (cfgR fmtI st ft) hC hI.fmt fmt_ref e (rmV vars) 0 0 hI.ex hRI rfl) ?_
    obtain ⟨x, hx⟩ : ∃ x, evR (cfgR fmtI st ft) e (rmV vars) = x := ⟨_, rfl⟩
    obtain ⟨v, M⟩ := x
    simp only [hx]
    simp -dsimp [go_sem, hN]
    refine tcall_pure (c_ref15_running (cfgR fmtI st ft) M) ?_
    simp -dsimp [go_sem, hN]
    refine cnd (fun h1 => ?_) (fun h1 => ?_) <;> simp at h1
    · rw [if_pos h1]
      simp -dsimp [go_sem, hN]
      refine tcall_pure (c_ref15_ended (cfgR fmtI st ft) M) ?_
      simp -dsimp [go_sem, hN, doneR, h1, V.nil]
    · rw [if_neg (by simp [h1])]
      simp -dsimp [go_sem, hN]
      refine awp_drawQ 3 mixed (by kernel_rfl) (by kernel_rfl) ?_
      simp -dsimp [go_sem, hN]
      refine tdcall (c_ref15_Commit (cfgR fmtI st ft) M) (by simp) ?_
      simp -dsimp [go_sem, hN, doneR, h1]
      all_goals try simp [sepD, List.zipIdx]
variable {tT : TypeId} {tx : Nat × Nat} {g : Nat}
theorem c_law15_InterpRuns (p : Proc) (args : List V) (ft : Foot) (st : List Pr) (h : AHeap) (hg : h[g]? = some (tabO tT tx)) (hI : RunIn fmtI p args st) :
    ACalls Tryz.prog 3 [.agg (runC p args ft), .slice (st.map Pr.c)] h fun r h' => r = .ret (Bo true) ∧ h' = h := by
  refine acalls_introB Tryz.func3 rfl (by kernel_rfl) (by simp [Tryz.ntmps3]) ?_
  intro E hN hh hu hb hb' hua
  rw [Tryz.ntmps3] at hN
  refine awp_of_wpC _ _ _ ?_
  have hgl : g < h.length := (List.getElem?_eq_some_iff.1 hg).1
  have hg' : ∀ l : AHeap, (h ++ l)[g]? = some (tabO tT tx) := fun l => by rw [List.getElem?_append_left hgl]; exact hg
  have s1 := c_ref15_Same (runS fmtI p args st ft) (runS fmtI p args st ft)
  have s2 := c_ref15_Same (runS fmtI p args st ⟨true, [], []⟩) (runS fmtI p args st ⟨true, [], []⟩)
  rw [sameE_refl] at s1 s2
  simp -dsimp [go_sem, hN, runC]
  refine awp_drawQ 29 mixed (by kernel_rfl) (by kernel_rfl) ?_
  simp -dsimp [go_sem, hN]
  refine tdcall_at (fun _ => at_tab (fun h hg => c_interp_Run (g := g) (tT := tT) (tx := tx) p args st ft h hg hI) (hg' _)) (by simp) ?_
  simp -dsimp [go_sem, hN]
  refine tdcall (c_ref15_Run p args st ft hI) (by simp) ?_
  simp -dsimp [go_sem, hN]
  refine tdcall s1 (by simp) ?_
  simp -dsimp [go_sem, hN]
  refine tdcall_at (fun _ => at_tab (fun h hg => c_interp_Free (g := g) (tT := tT) (tx := tx) p args st h hg hI) (hg' _)) (by simp) ?_
  simp -dsimp [go_sem, hN]
  refine tgcall_pure (c_ref15_Free p args st hI) (by simp) ?_
  simp -dsimp [go_sem, hN]
  refine tgcall_pure s2 (by simp) ?_
  simp -dsimp [go_sem, hN]
  refine tgcall_true (by simp) ((c_law15_examples _ (hg' _)).mono ?_)
  rintro r h' ⟨rfl, rfl⟩
  simp -dsimp [go_sem, hN]
  exact ⟨_, .refl _, h, by simp [go_sem], hwk.app0 _, Nat.le_refl _, hu, rfl, rfl⟩
theorem c_law15_InterpEvals (e : Ex) (vars st : List Pr) (ft : Foot) (h : AHeap) (hg : h[g]? = some (tabO tT tx)) (hI : EvIn fmtI e vars st) :
    ACalls Tryz.prog 4 [.agg e.x, .agg [.slice (vars.map Pr.c), .slice (st.map Pr.c)], .agg ft.c] h fun r h' => r = .ret (Bo true) ∧ h' = h := by
  refine acalls_introB Tryz.func4 rfl (by kernel_rfl) (by simp [Tryz.ntmps4]) ?_
  intro E hN hh hu hb hb' hua
  rw [Tryz.ntmps4] at hN
  refine awp_of_wpC _ _ _ ?_
  have hgl : g < h.length := (List.getElem?_eq_some_iff.1 hg).1
  have hg' : ∀ l : AHeap, (h ++ l)[g]? = some (tabO tT tx) := fun l => by rw [List.getElem?_append_left hgl]; exact hg
  have s1 := c_ref15_Same (evalS fmtI e vars st ft).2 (evalS fmtI e vars st ft).2
  rw [sameE_refl] at s1
  have hE := fun H hH => c_interp_Eval (g := g) (tT := tT) (tx := tx) e vars st ft H hH hI
  have hR := c_ref15_Eval e vars st ft hI
  obtain ⟨x, hx⟩ : ∃ x, evalS fmtI e vars st ft = x := ⟨_, rfl⟩
  obtain ⟨v, E1⟩ := x
  simp only [hx] at s1 hE hR
  simp -dsimp [go_sem, hN]
  refine tcall (hE _ (hg' _)) ?_
  rintro r h' ⟨rfl, rfl⟩
  simp -dsimp [go_sem, hN]
  refine tcall_pure hR ?_
  simp -dsimp [go_sem, hN]
  refine tgcall_pure s1 (by simp) ?_
  simp -dsimp [go_sem, hN]
  refine tgcall_true (by simp) ((c_law15_examples _ (hg' _)).mono ?_)
  rintro r h' ⟨rfl, rfl⟩
  simp -dsimp [go_sem, hN]
  exact ⟨_, .refl _, h, by simp [go_sem], hwk.app0 _, Nat.le_refl _, hu, rfl, rfl⟩
end
end Go.Proofs.YtcmbmfmpelnimaaGreatDoor

set_option maxRecDepth 8000
namespace Go.Proofs.YtcmbmfmpelnimaaGreatDoor
open Go Go.Abs Go.Cw
section
variable {H : Type} {enc : TypeId × Value → H} {w : World}
theorem bulk_part {d : DataW H} {l : List (DataW H)} (h : d ∈ l) : Rows.uptoBulk d ≤ Rows.uptoBulkAll l := by
  induction l with
  | nil => cases h
  | cons x r ih =>
    simp only [Rows.uptoBulkAll]
    rcases List.mem_cons.1 h with rfl | e
    · omega
    · have := ih e; omega
theorem bulk_one (d : DataW H) : 1 ≤ Rows.uptoBulk d := by
  cases d with
  | lit l => cases l <;> simp [Rows.uptoBulk]
  | nil => simp [Rows.uptoBulk]
  | ptr d => simp [Rows.uptoBulk]
  | slice elems spare => simp [Rows.uptoBulk]
  | agg parts => simp [Rows.uptoBulk]
  | iface t d => simp [Rows.uptoBulk]
  | map entries => simp [Rows.uptoBulk]
  | held h => simp [Rows.uptoBulk]
theorem bulk_len (l : List (DataW H)) : l.length ≤ Rows.uptoBulkAll l := by
  induction l with
  | nil => simp [Rows.uptoBulkAll]
  | cons x r ih => have := bulk_one x; simp only [Rows.uptoBulkAll, List.length_cons]; omega
theorem bulkB : Bulk (H := H) Rows.uptoBulk where
  str := fun s => by simp [Rows.uptoBulk]
  len := fun e s => by have := bulk_len e; simp only [Rows.uptoBulk]; omega
  sl := fun e s x hx => by have := bulk_part hx; simp only [Rows.uptoBulk]; omega
  agg := fun ps x hx => by have := bulk_part hx; simp only [Rows.uptoBulk]; omega
abbrev UB : Nat := 1048576
variable (enc w) in
abbrev RD (n : Nat) (t : TypeId) (Q : List AV → Prop) : Prop := Rd enc Tryz.prog w Rows.uptoBulk UB n t Q
theorem ub_le : UB ≤ 68719476736 := by decide
def rOf {α : Type} (c : α → List AV) (good : α → Prop) (xs : List AV) : Prop := ∃ a, xs = c a ∧ good a
def gStr (s : Bytes) : Prop := s.size ≤ UB
def gSl {α : Type} (good : α → Prop) (l : List α) : Prop := l.length ≤ UB ∧ ∀ a ∈ l, good a
def qOf {α : Type} (c : α → List AV) (good : α → Prop) (xs : List AV) : Prop := rOf (fun l : List α => [.slice (l.map c)]) (gSl good) xs
theorem rd_of {n : Nat} {t e : TypeId} (ht : Tryz.prog.underlying t = some (.slice e)) {sz : Nat} (hsz : Tryz.prog.cellsOf e = sz) (h0 : 0 < sz) {α : Type} {c : α → List AV} {good : α → Prop} (hl : ∀ a, (c a).length = sz) (he : RD enc w n e (rOf c good)) : RD enc w n t (qOf c good) := by
  refine (rd_slice bulkB ub_le ht hsz h0 (by rintro _ ⟨a, rfl, _⟩; exact hl a) he).mono ?_
  rintro _ ⟨rows, rfl, hlen, hq⟩
  obtain ⟨l, rfl, hg⟩ := rows_list hq
  exact ⟨l, rfl, by simpa using hlen, hg⟩
theorem len_of {α : Type} {c : α → List AV} {good : α → Prop} : ∀ xs, qOf c good xs → xs.length = 1 := by rintro _ ⟨l, rfl, _⟩; rfl
theorem rd_I {n : Nat} : RD enc w n 3 (qInt .i64) := rd_int (by decide) Tryz.underlying3
theorem rd_I64 {n : Nat} : RD enc w n 2 (qInt .i64) := rd_int (by decide) Tryz.underlying2
theorem rd_S {n : Nat} : RD enc w n 9 (qStr UB) := rd_str bulkB ub_le Tryz.underlying9
theorem rd_B {n : Nat} : RD enc w n 4 qBool := rd_bool Tryz.underlying4
theorem i64_of {z : Int} (h : IntKind.i64.min ≤ z ∧ z ≤ IntKind.i64.max) : i64 z := ⟨h.1, h.2⟩
theorem rd_V : ∀ {n : Nat}, RD enc w n 47 (rOf V.c rngV)
  | 0 => Rd.zero
  | n + 1 => by
    refine (rd_struct (Qs := [qInt .i64, qInt .i64, qStr UB]) bulkB Tryz.underlying47 ?_).mono ?_
    · simp only [Flds]
      exact ⟨(by first | rfl | trivial), 1, by kernel_rfl, rd_I, len_int, (by first | rfl | trivial), 1, by kernel_rfl, rd_I64, len_int, (by first | rfl | trivial), 1, by kernel_rfl, rd_S, len_str, by first | kernel_rfl | trivial⟩
    · rintro _ ⟨ps, hp0, rfl⟩
      obtain ⟨_, _, rfl, ⟨k, rfl, _⟩, hp1⟩ := parts_cons hp0
      obtain ⟨_, _, rfl, ⟨z, rfl, hz⟩, hp2⟩ := parts_cons hp1
      obtain ⟨_, _, rfl, ⟨s, rfl, hs⟩, hp3⟩ := parts_cons hp2
      obtain rfl := parts_nil hp3
      exact ⟨⟨k, z, s⟩, rfl, i64_of hz, by show s.size ≤ _; unfold UB at hs; omega⟩
def gP (p : Pr) : Prop := p.key.size ≤ UB ∧ rngV p.v
theorem rd_P : ∀ {n : Nat}, RD enc w n 94 (rOf Pr.c gP)
  | 0 => Rd.zero
  | n + 1 => by
    refine (rd_struct (Qs := [qStr UB, rOf V.c rngV]) bulkB Tryz.underlying94 ?_).mono ?_
    · simp only [Flds]
      exact ⟨(by first | rfl | trivial), 1, by kernel_rfl, rd_S, len_str, (by first | rfl | trivial), 3, by kernel_rfl, rd_V, by rintro _ ⟨v, rfl, _⟩; rfl, by first | kernel_rfl | trivial⟩
    · rintro _ ⟨ps, hp0, rfl⟩
      obtain ⟨_, _, rfl, ⟨k, rfl, hk⟩, hp1⟩ := parts_cons hp0
      obtain ⟨_, _, rfl, ⟨v, rfl, hv⟩, hp2⟩ := parts_cons hp1
      obtain rfl := parts_nil hp2
      exact ⟨⟨k, v⟩, rfl, hk, hv⟩
theorem rd_Vs {n : Nat} : RD enc w n 26 (qOf V.c rngV) := rd_of Tryz.underlying26 (sz := 3) (by kernel_rfl) (by decide) (fun _ => rfl) rd_V
theorem rd_Ps {n : Nat} : RD enc w n 32 (qOf Pr.c gP) := rd_of Tryz.underlying32 (sz := 4) (by kernel_rfl) (by decide) (fun _ => rfl) rd_P
theorem rd_Ss {n : Nat} : RD enc w n 27 (qOf sRow gStr) := rd_of Tryz.underlying27 (sz := 1) (by kernel_rfl) (by decide) (fun _ => rfl) (rd_S.mono (by rintro _ ⟨s, rfl, hs⟩; exact ⟨s, rfl, hs⟩))
theorem rd_E : ∀ (n : Nat), RD enc w n 44 (rOf Ex.c rngX)
  | 0 => Rd.zero
  | n + 1 => by
    have hs : RD enc w n 42 (qOf Ex.c rngX) := rd_of Tryz.underlying42 (sz := 4) (by kernel_rfl) (by decide) (fun e => by rw [Ex.c_eq]; rfl) (rd_E n)
    refine (rd_struct (Qs := [qInt .i64, qInt .i64, qStr UB, qOf Ex.c rngX]) bulkB Tryz.underlying44 ?_).mono ?_
    · simp only [Flds]
      exact ⟨(by first | rfl | trivial), 1, by kernel_rfl, rd_I, len_int, (by first | rfl | trivial), 1, by kernel_rfl, rd_I64, len_int, (by first | rfl | trivial), 1, by kernel_rfl, rd_S, len_str, (by first | rfl | trivial), 1, by kernel_rfl, hs, len_of, by first | kernel_rfl | trivial⟩
    · rintro _ ⟨ps, hp0, rfl⟩
      obtain ⟨_, _, rfl, ⟨k, rfl, _⟩, hp1⟩ := parts_cons hp0
      obtain ⟨_, _, rfl, ⟨z, rfl, hz⟩, hp2⟩ := parts_cons hp1
      obtain ⟨_, _, rfl, ⟨s, rfl, hs⟩, hp3⟩ := parts_cons hp2
      obtain ⟨_, _, rfl, ⟨l, rfl, hl⟩, hp4⟩ := parts_cons hp3
      obtain rfl := parts_nil hp4
      refine ⟨.mk k z s l, by rw [Ex.c_eq]; rfl, (rngX_iff _).2 ⟨⟨i64_of hz, by show s.size ≤ _; unfold UB at hs; omega⟩, hl.2⟩⟩
theorem rd_T : ∀ (n : Nat), RD enc w n 125 (rOf St.c rngS)
  | 0 => Rd.zero
  | n + 1 => by
    have hs : RD enc w n 23 (qOf St.c rngS) := rd_of Tryz.underlying23 (sz := 13) (by kernel_rfl) (by decide) (fun e => by rw [St.c_eq]; rfl) (rd_T n)
    refine (rd_struct (Qs := [qInt .i64, qStr UB, qInt .i64, rOf Ex.c rngX, rOf Ex.c rngX, qOf St.c rngS, qOf St.c rngS]) bulkB Tryz.underlying125 ?_).mono ?_
    · simp only [Flds]
      exact ⟨(by first | rfl | trivial), 1, by kernel_rfl, rd_I, len_int, (by first | rfl | trivial), 1, by kernel_rfl, rd_S, len_str, (by first | rfl | trivial), 1, by kernel_rfl, rd_I, len_int, (by first | rfl | trivial), 4, by kernel_rfl, rd_E n, by rintro _ ⟨e, rfl, _⟩; rw [Ex.c_eq]; rfl, (by first | rfl | trivial), 4, by kernel_rfl, rd_E n, by rintro _ ⟨e, rfl, _⟩; rw [Ex.c_eq]; rfl, (by first | rfl | trivial), 1, by kernel_rfl, hs, len_of, (by first | rfl | trivial), 1, by kernel_rfl, hs, len_of, by first | kernel_rfl | trivial⟩
    · rintro _ ⟨ps, hp0, rfl⟩
      obtain ⟨_, _, rfl, ⟨k, rfl, _⟩, hp1⟩ := parts_cons hp0
      obtain ⟨_, _, rfl, ⟨s, rfl, hs⟩, hp2⟩ := parts_cons hp1
      obtain ⟨_, _, rfl, ⟨m, rfl, _⟩, hp3⟩ := parts_cons hp2
      obtain ⟨_, _, rfl, ⟨a, rfl, ha⟩, hp4⟩ := parts_cons hp3
      obtain ⟨_, _, rfl, ⟨b, rfl, hb⟩, hp5⟩ := parts_cons hp4
      obtain ⟨_, _, rfl, ⟨l, rfl, hl⟩, hp6⟩ := parts_cons hp5
      obtain ⟨_, _, rfl, ⟨l', rfl, hl'⟩, hp7⟩ := parts_cons hp6
      obtain rfl := parts_nil hp7
      refine ⟨.mk k s m a b l l', ?_, (rngS_iff _).2 ⟨ha, hb, hl.2, hl'.2⟩⟩
      simp [St.c, St.cl_map]
theorem rd_Ts {n : Nat} : RD enc w n 23 (qOf St.c rngS) := rd_of Tryz.underlying23 (sz := 13) (by kernel_rfl) (by decide) (fun e => by rw [St.c_eq]; rfl) (rd_T n)
theorem rd_M : ∀ {n : Nat}, RD enc w n 80 (rOf Param.c fun p => gStr p.name)
  | 0 => Rd.zero
  | n + 1 => by
    refine (rd_struct (Qs := [qStr UB, qInt .i64]) bulkB Tryz.underlying80 ?_).mono ?_
    · simp only [Flds]
      exact ⟨(by first | rfl | trivial), 1, by kernel_rfl, rd_S, len_str, (by first | rfl | trivial), 1, by kernel_rfl, rd_I, len_int, by first | kernel_rfl | trivial⟩
    · rintro _ ⟨ps, hp0, rfl⟩
      obtain ⟨_, _, rfl, ⟨s, rfl, hs⟩, hp1⟩ := parts_cons hp0
      obtain ⟨_, _, rfl, ⟨k, rfl, _⟩, hp2⟩ := parts_cons hp1
      obtain rfl := parts_nil hp2
      exact ⟨⟨s, k⟩, rfl, hs⟩
theorem rd_Ms {n : Nat} : RD enc w n 22 (qOf Param.c fun p => gStr p.name) := rd_of Tryz.underlying22 (sz := 2) (by kernel_rfl) (by decide) (fun _ => rfl) rd_M
def gProc (p : Proc) : Prop := gStr p.name ∧ gSl (fun x : Param => gStr x.name) p.params ∧ gSl rngS p.body
theorem rd_Proc : ∀ {n : Nat}, RD enc w n 25 (rOf Proc.c gProc)
  | 0 => Rd.zero
  | n + 1 => by
    refine (rd_struct (Qs := [qStr UB, qOf Param.c fun p => gStr p.name, qOf St.c rngS]) bulkB Tryz.underlying25 ?_).mono ?_
    · simp only [Flds]
      exact ⟨(by first | rfl | trivial), 1, by kernel_rfl, rd_S, len_str, (by first | rfl | trivial), 1, by kernel_rfl, rd_Ms, len_of, (by first | rfl | trivial), 1, by kernel_rfl, rd_Ts, len_of, by first | kernel_rfl | trivial⟩
    · rintro _ ⟨ps, hp0, rfl⟩
      obtain ⟨_, _, rfl, ⟨s, rfl, hs⟩, hp1⟩ := parts_cons hp0
      obtain ⟨_, _, rfl, ⟨l, rfl, hl⟩, hp2⟩ := parts_cons hp1
      obtain ⟨_, _, rfl, ⟨b, rfl, hb⟩, hp3⟩ := parts_cons hp2
      obtain rfl := parts_nil hp3
      exact ⟨⟨s, l, b⟩, rfl, hs, hl, hb⟩
def gFoot (f : Foot) : Prop := gSl gStr f.reads ∧ gSl gStr f.writes
theorem rd_Foot : ∀ {n : Nat}, RD enc w n 29 (rOf Foot.c gFoot)
  | 0 => Rd.zero
  | n + 1 => by
    refine (rd_struct (Qs := [qBool, qOf sRow gStr, qOf sRow gStr]) bulkB Tryz.underlying29 ?_).mono ?_
    · simp only [Flds]
      exact ⟨(by first | rfl | trivial), 1, by kernel_rfl, rd_B, len_bool, (by first | rfl | trivial), 1, by kernel_rfl, rd_Ss, len_of, (by first | rfl | trivial), 1, by kernel_rfl, rd_Ss, len_of, by first | kernel_rfl | trivial⟩
    · rintro _ ⟨ps, hp0, rfl⟩
      obtain ⟨_, _, rfl, ⟨b, rfl⟩, hp1⟩ := parts_cons hp0
      obtain ⟨_, _, rfl, ⟨l, rfl, hl⟩, hp2⟩ := parts_cons hp1
      obtain ⟨_, _, rfl, ⟨l', rfl, hl'⟩, hp3⟩ := parts_cons hp2
      obtain rfl := parts_nil hp3
      exact ⟨⟨b, l, l'⟩, rfl, hl, hl'⟩
structure gEff (e : Eff) : Prop where
  out : gSl rngV e.out
  reads : gSl gStr e.reads
  puts : gSl gStr e.puts
  writes : gSl gP e.writes
  miss : gStr e.miss
end
end Go.Proofs.YtcmbmfmpelnimaaGreatDoor

set_option maxRecDepth 8000
namespace Go.Proofs.YtcmbmfmpelnimaaGreatDoor
open Go Go.Abs Go.Cw Go.ChangeShapes Go.WideShapes Go.ChangeAt Go.RowKit
theorem laidOut : laidOutB Tryz.prog = true := by kernel_rfl
theorem ownK : ownKnob Tryz.prog.godebug = none := by kernel_rfl
abbrev laidL : List (String × DataW Unit) := [("math/bits.deBruijn32tab", Rows.laid_math_bits_deBruijn32tab), ("math/bits.deBruijn64tab", Rows.laid_math_bits_deBruijn64tab), ("internal/strconv.uint64pow10", Rows.laid_internal_strconv_uint64pow10)]
abbrev gTab : Nat := 1
theorem table {W : World} (h : laidMetH Tryz.prog laidL W) : Lib.TabIs Tryz.prog W "internal/strconv.uint64pow10" .u64 Lib.pow10Tab :=
  Lib.tabIs_of_head (rest := []) (g := gTab) (n := 20) (by kernel_rfl) (by kernel_rfl) Tryz.underlying280 Tryz.underlying204 (by kernel_rfl) (by kernel_rfl) (laidMet.tail (laidMet.tail (show laidMet Tryz.prog laidL W from h)))
theorem table_heap {W : World} (h : laidMetH Tryz.prog laidL W) : ∃ T x, W.heap[gTab]? = some (.cells tabV T x) := by
  have h1 := table h
  unfold Lib.TabIs World.var? at h1
  rw [show Tryz.prog.globalNamed "internal/strconv.uint64pow10" = some gTab by kernel_rfl] at h1
  simp only [Option.bind_some] at h1
  split at h1
  · rename_i cs T x hx
    cases h1
    exact ⟨T, x, hx⟩
  · cases h1
theorem tab_u64 : ∀ (j : Nat) (v : Value), tabV[j]? = some v → ∃ n, v = .int .u64 n := by
  intro j v hv
  unfold tabV at hv
  have : (Lib.pow10Tab.map fun z => Value.int .u64 z)[j]? = some v := by simpa using hv
  rw [List.getElem?_map, Option.map_eq_some_iff] at this
  obtain ⟨z, _, rfl⟩ := this
  exact ⟨z, rfl⟩
def putTab (zs : List Value) : Obj → Obj
  | .cells _ t fr => .cells zs.toArray t fr
  | o => o
def tabVals (d : DataW Unit) : List Value := match d with
  | .agg ps => ps.map fun | .lit (.int k n) => .int k n | _ => undef
  | _ => []
noncomputable def laidWorld (os : Os) : World :=
  { World.holding Tryz.prog os ⟨#[], #[], []⟩ with heap := (((World.holding Tryz.prog os ⟨#[], #[], []⟩).heap.modify gTab (putTab (tabVals Rows.laid_internal_strconv_uint64pow10))).modify 2 (putTab (tabVals Rows.laid_math_bits_deBruijn32tab))).modify 3 (putTab (tabVals Rows.laid_math_bits_deBruijn64tab)) }
section
variable {H : Type} {enc : TypeId × Value → H} {W : World} {base : Nat}
theorem okWide_struct {t : TypeId} {fs : Array Field} (ht : Tryz.prog.underlying t = some (.struct fs)) {v : Value} (h : Value.okWide Tryz.prog W .any base t v) : ∃ cs, v = .agg cs := by
  unfold Value.okWide at h
  rw [ht] at h
  obtain ⟨cs, rfl, _⟩ := h
  exact ⟨cs, rfl⟩
theorem okWide_slice {t e : TypeId} (ht : Tryz.prog.underlying t = some (.slice e)) {v : Value} (h : Value.okWide Tryz.prog W .any base t v) : v.cells = #[v] := by
  unfold Value.okWide at h
  rw [ht] at h
  simp only at h
  unfold Cell.okWide at h
  rw [ht] at h
  cases v <;> first | rfl | skip
  unfold Cell.ok at h
  rw [ht] at h
  exact h.elim
theorem arg_struct {t : TypeId} {fs : Array Field} (ht : Tryz.prog.underlying t = some (.struct fs)) {v : Value} {d : DataW H} {ps : List MemPlace} (hv : Value.okWide Tryz.prog W .any base t v) (h : DataW.Trod enc Tryz.prog W 0 (fun _ => true) true t v d ps)
    {α : Type} {c : α → List AV} {good : α → Prop} (hr : ∀ n, RD enc W n t (rOf c good)) (hb : Rows.uptoBulk d ≤ UB) : ∃ a, Rel (ctxR W gTab) (.agg (c a)) v ∧ good a := by
  obtain ⟨cs, rfl⟩ := okWide_struct ht hv
  obtain ⟨fuel, hf⟩ := h
  obtain ⟨_, hd, a, rfl, hg⟩ := hr fuel fuel _ _ _ (Nat.le_refl _) hf hb
  exact ⟨a, rel_agg hd, hg⟩
theorem arg_slice {t e : TypeId} (ht : Tryz.prog.underlying t = some (.slice e)) {v : Value} {d : DataW H} {ps : List MemPlace} (hv : Value.okWide Tryz.prog W .any base t v) (h : DataW.Trod enc Tryz.prog W 0 (fun _ => true) true t v d ps)
    {α : Type} {c : α → List AV} {good : α → Prop} (hr : ∀ n, RD enc W n t (qOf c good)) (hb : Rows.uptoBulk d ≤ UB) : ∃ l : List α, Rel (ctxR W gTab) (.slice (l.map c)) v ∧ gSl good l := by
  obtain ⟨fuel, hf⟩ := h
  rw [okWide_slice ht hv] at hf
  obtain ⟨_, hd, l, rfl, hg⟩ := hr fuel fuel _ _ _ (Nat.le_refl _) hf hb
  exact ⟨l, rel_one hd, hg⟩
end
end Go.Proofs.YtcmbmfmpelnimaaGreatDoor

set_option maxRecDepth 8000
namespace Go.Proofs.YtcmbmfmpelnimaaGreatDoor
open Go Go.Abs Go.Cw
section
variable {H : Type} {enc : TypeId × Value → H} {w : World}
def gRun (r : Proc × List V × Foot) : Prop := gProc r.1 ∧ gSl rngV r.2.1 ∧ gFoot r.2.2
theorem rd_Run : ∀ {n : Nat}, RD enc w n 31 (rOf (fun r : Proc × List V × Foot => runC r.1 r.2.1 r.2.2) gRun)
  | 0 => Rd.zero
  | n + 1 => by
    refine (rd_struct (Qs := [rOf Proc.c gProc, qOf V.c rngV, rOf Foot.c gFoot]) bulkB Tryz.underlying31 ?_).mono ?_
    · simp only [Flds]
      exact ⟨(by first | rfl | trivial), 3, by kernel_rfl, rd_Proc, by rintro _ ⟨v, rfl, _⟩; rfl, (by first | rfl | trivial), 1, by kernel_rfl, rd_Vs, len_of, (by first | rfl | trivial), 3, by kernel_rfl, rd_Foot, by rintro _ ⟨v, rfl, _⟩; rfl, by first | kernel_rfl | trivial⟩
    · rintro _ ⟨ps, hp0, rfl⟩
      obtain ⟨_, _, rfl, ⟨p, rfl, hp⟩, hp1⟩ := parts_cons hp0
      obtain ⟨_, _, rfl, ⟨l, rfl, hl⟩, hp2⟩ := parts_cons hp1
      obtain ⟨_, _, rfl, ⟨f, rfl, hf⟩, hp3⟩ := parts_cons hp2
      obtain rfl := parts_nil hp3
      exact ⟨(p, l, f), rfl, hp, hl, hf⟩
theorem runIn_of {p : Proc} {args : List V} {st : List Pr} (hp : gProc p) (ha : gSl rngV args) (hs : gSl gP st) : RunIn fmtI p args st := ⟨plain_itoa, hp.2.2.2, ha.2, fun q hq => (hs.2 q hq).2⟩
end
end Go.Proofs.YtcmbmfmpelnimaaGreatDoor

set_option maxRecDepth 8000
namespace Go.Proofs.YtcmbmfmpelnimaaGreatDoor
open Go Go.Abs Go.Cw
section
variable {H : Type} {enc : TypeId × Value → H} {w : World} {base : Nat}
theorem okWide_arr {t e : TypeId} {n : Nat} (ht : Tryz.prog.underlying t = some (.array n e)) {v : Value} (h : Value.okWide Tryz.prog w .any base t v) : ∃ cs, v = .agg cs := by
  unfold Value.okWide at h
  rw [ht] at h
  obtain ⟨cs, rfl, _⟩ := h
  exact ⟨cs, rfl⟩
theorem arg_arr {t e : TypeId} {m : Nat} (ht : Tryz.prog.underlying t = some (.array m e)) {v : Value} {d : DataW H} {ps : List MemPlace} (hv : Value.okWide Tryz.prog w .any base t v) (h : DataW.Trod enc Tryz.prog w 0 (fun _ => true) true t v d ps)
    {α : Type} {c : α → List AV} {good : α → Prop} (hr : ∀ n, RD enc w n t (rOf c good)) (hb : Rows.uptoBulk d ≤ UB) : ∃ a, Rel (ctxR w gTab) (.agg (c a)) v ∧ good a := by
  obtain ⟨cs, rfl⟩ := okWide_arr ht hv
  obtain ⟨fuel, hf⟩ := h
  obtain ⟨_, hd, a, rfl, hg⟩ := hr fuel fuel _ _ _ (Nat.le_refl _) hf hb
  exact ⟨a, rel_agg hd, hg⟩
theorem rd_PP : ∀ {n : Nat}, RD enc w n 45 (rOf (fun q : List Pr × List Pr => [.slice (q.1.map Pr.c), .slice (q.2.map Pr.c)]) fun q => gSl gP q.1 ∧ gSl gP q.2)
  | 0 => Rd.zero
  | n + 1 => by
    refine (rd_arr2 bulkB Tryz.underlying45 (by kernel_rfl) (by kernel_rfl) rd_Ps).mono ?_
    rintro _ ⟨p, q, ⟨a, rfl, ha⟩, ⟨b, rfl, hb⟩, rfl⟩
    exact ⟨(a, b), rfl, ha, hb⟩
theorem evIn_of {e : Ex} {vs st : List Pr} (he : rngX e) (hv : gSl gP vs) (hs : gSl gP st) : EvIn fmtI e vs st := ⟨plain_itoa, he, fun q hq => (hv.2 q hq).2, fun q hq => (hs.2 q hq).2, by have := hv.1; unfold UB at this; omega⟩
end
end Go.Proofs.YtcmbmfmpelnimaaGreatDoor
