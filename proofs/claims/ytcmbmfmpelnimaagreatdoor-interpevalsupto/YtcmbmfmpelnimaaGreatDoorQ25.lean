/- Part 25 of a proof: W30, W31, W32, W33, W34, W46, W46b, W46c -/
import Derived.Shelf.Small.Strs
import Derived.Shelf.Strconv.Itoa4
import Derived.Lib.ItoaLen
import Derived.Test.YtcmbmfmpelnimaaGreatDoorQ09
import Derived.Test.YtcmbmfmpelnimaaGreatDoorQ11
import Derived.Test.YtcmbmfmpelnimaaGreatDoorQ12
import Derived.Test.YtcmbmfmpelnimaaGreatDoorQ13
import Derived.Test.YtcmbmfmpelnimaaGreatDoorQ14
import Derived.Test.YtcmbmfmpelnimaaGreatDoorQ18
import Derived.Test.YtcmbmfmpelnimaaGreatDoorQ19
import Derived.Test.YtcmbmfmpelnimaaGreatDoorQ22
import Derived.Test.YtcmbmfmpelnimaaGreatDoorQ23
import Derived.Test.YtcmbmfmpelnimaaGreatDoorQ24
set_option linter.all false

set_option maxRecDepth 4000
set_option maxHeartbeats 2000000
namespace Go.Proofs.YtcmbmfmpelnimaaGreatDoor
open Go Go.Abs Go.Cw
attribute [local go_sem] mC
theorem kAV_vAV_und (n : Nat) (l : List (Bytes × V)) : (AObj.map (kAV vAV l)).under n = true := kAV_und (f := vAV) (fun n a => by simp [AV.under, V.c, underL]) n l
theorem kAV_u2 (n : Nat) (l : List (Bytes × V)) : (∀ (a b : AV), (a, b) ∈ kAV vAV l → AV.under n a = true ∧ AV.under n b = true) = True := by
  refine eq_true fun a b hab => ?_
  obtain ⟨s, x, rfl, rfl⟩ := kAV_mem hab
  simp [AV.under, V.c, underL]
theorem setArgs_nil (m : List (Bytes × V)) : setArgs [] [] m = m := rfl
theorem MH_run (st : List Pr) (ft : Foot) (fmt : Int → Bytes) (h A L : AHeap) {g : Nat} {tb : AObj} {tV tS : Nat} (hg : h[g]? = some tb) (hu : hUnder h.length h = true) (a l : Nat) (hA : A.length = a) (hL : L.length = l) (uA : hUnder (h.length + (a + l + 7)) A = true) (uL : hUnder (h.length + (a + l + 7)) L = true) :
    MH (cfgR fmt st ft) tb tV tS g (h.length + (a + 3)) (h.length + (a + 1)) (h.length + (a + 2)) (h.length + (a + l + 4)) (h.length + (a + l + 5)) (h.length + (a + l + 6))
      (fun q => h ++ (A ++ (.cells ft.c :: .map (kAV vAV q.vars) :: .map (kAV vAV q.own) :: .cells (mC (cfgR fmt st ft) (h.length + (a + 1)) (h.length + (a + 2)) (h.length + (a + l + 4)) (h.length + (a + l + 5)) (h.length + (a + l + 6)) q) :: (L ++ [.arr tV 3 (q.out.map V.c), .uarr tS 1 (q.reads.map sRow), .uarr tS 1 (q.puts.map sRow)])))) (h.length + (a + l + 7)) := by
  have hgl : g < h.length := (List.getElem?_eq_some_iff.1 hg).1
  subst hA; subst hL
  have e1 : ∀ (X : AHeap) (k : Nat), (h ++ X)[h.length + k]? = X[k]? := fun X k => by rw [List.getElem?_append_right (by omega)]; congr 1; omega
  have e2 : ∀ (X : AHeap) (k : Nat), (A ++ X)[A.length + k]? = X[k]? := fun X k => by rw [List.getElem?_append_right (by omega)]; congr 1; omega
  have e3 : ∀ (X : AHeap) (k : Nat), (L ++ X)[L.length + k]? = X[k]? := fun X k => by rw [List.getElem?_append_right (by omega)]; congr 1; omega
  have s1 : ∀ (X : AHeap) (k : Nat) (y : AObj), (h ++ X).set (h.length + k) y = h ++ X.set k y := fun X k y => by rw [List.set_append_right _ _ (by omega)]; congr 2; omega
  have s2 : ∀ (X : AHeap) (k : Nat) (y : AObj), (A ++ X).set (A.length + k) y = A ++ X.set k y := fun X k y => by rw [List.set_append_right _ _ (by omega)]; congr 2; omega
  have s3 : ∀ (X : AHeap) (k : Nat) (y : AObj), (L ++ X).set (L.length + k) y = L ++ X.set k y := fun X k y => by rw [List.set_append_right _ _ (by omega)]; congr 2; omega
  have e4 : ∀ (a b c d : AObj) (X : AHeap) (k : Nat), (a :: b :: c :: d :: (L ++ X))[L.length + 4 + k]? = X[k]? := fun a b c d X k => by
    rw [show L.length + 4 + k = (L.length + k) + 1 + 1 + 1 + 1 by omega]
    simp only [List.getElem?_cons_succ]
    exact e3 X k
  have s4 : ∀ (a b c d y : AObj) (X : AHeap) (k : Nat), (a :: b :: c :: d :: (L ++ X)).set (L.length + 4 + k) y = a :: b :: c :: d :: (L ++ X.set k y) := fun a b c d y X k => by
    rw [show L.length + 4 + k = (L.length + k) + 1 + 1 + 1 + 1 by omega]
    simp only [List.set_cons_succ]
    rw [s3]
  have i0 : h.length + (A.length + L.length + 4) = h.length + (A.length + (L.length + 4 + 0)) := by omega
  have i1 : h.length + (A.length + L.length + 5) = h.length + (A.length + (L.length + 4 + 1)) := by omega
  have i2 : h.length + (A.length + L.length + 6) = h.length + (A.length + (L.length + 4 + 2)) := by omega
  constructor
  case lg => intro q; rw [List.getElem?_append_left hgl]; exact hg
  case len => intro q; simp; omega
  case und =>
    intro q
    rw [hUnder_app, hUnder_mono (Nat.le_add_right _ _) hu, hUnder_app, uA]
    simp only [hUnder, kAV_vAV_und, hUnder_app, uL, Bool.true_and, Bool.and_true]
    simp [AObj.under, AV.under, underL, mC, Foot.c]
    omega
  case lm => intro q; rw [e1, e2]; rfl
  case lv => intro q; rw [e1, e2]; rfl
  case lo => intro q; rw [e1, e2]; rfl
  case lio => intro q; rw [i0, e1, e2, e4]; rfl
  case lir => intro q; rw [i1, e1, e2, e4]; rfl
  case lip => intro q; rw [i2, e1, e2, e4]; rfl
  case sm => intro q no nr np s; rw [s1, s2]; rfl
  case sv => intro q x; rw [s1, s2]; rfl
  case so => intro q x; rw [s1, s2]; rfl
  case sio => intro q x; simp only [i0, s1, s2, s4]; rfl
  case sir => intro q x; simp only [i1, s1, s2, s4]; rfl
  case sip => intro q x; simp only [i2, s1, s2, s4]; rfl
  all_goals omega
variable {C : Cfg} {tT : TypeId} {tx : Nat × Nat} {g m v o io ir ip : Nat} {K : MQ → AHeap} {n0 : Nat}
theorem c_interp_Run1 (hF : C.fmt = fmtI) (hC : rngC C) (p : Proc) (hG : ∀ x ∈ p.body, goS x) (Y : MHs C tT tx g m v o io ir ip K n0) (s : MS) (hI : Cw.Inv 0 0 s) {a b : Nat} (ha : ∀ q, (K q)[a]? = some (.cells [.ptr m 0])) (hb0 : ∀ q, (K q)[b]? = some (.cells p.c)) :
    ACalls Tryz.prog 37 [.ptr a 0, .ptr b 0] (K s.q) fun r h' => r = endU (blkI C p.body s).1 ∧ h' = K (blkI C p.body s).2.q := by
  refine acalls_introB Tryz.func37 rfl (by kernel_rfl) (by simp [Tryz.ntmps37]) ?_
  intro E hN hh hu hb hb' hua
  rw [Tryz.ntmps37] at hN
  refine awp_of_wpC _ _ _ ?_
  simp -dsimp [go_sem, hN, ha, hb0]
  refine tcall (c_machine_block hF hC p.body hG Y s hI) ?_
  rintro r h' ⟨rfl, rfl⟩
  rcases blkI C p.body s with ⟨z | ⟨⟩, s1⟩ <;> simp -dsimp [go_sem, hN, endU] <;> exact ⟨_, .refl _, K s1.q, by simp [go_sem], by first | exact hwk.refl _ | exact hwk.app0 _ | simp [hwk.refl], by simp [Y.len], Y.und' _, by first | rfl | simp, by first | rfl | simp [MS.q]⟩
abbrev effZ : AObj := .cells [I 0, I 0, .nils, .nils, .nils, .nils, S em, I 0]
def endC : Except Stop Unit → List AV
  | .ok _ => zs
  | .error z => [I z.status, I z.code, .slice [], S z.miss]
def isE : Except Stop Unit → Bool
  | .ok _ => false
  | .error _ => true
@[simp] theorem norm_endC (H : AHeap) (x : Except Stop Unit) : normL H (endC x) = endC x := by cases x <;> rfl
@[simp] theorem under_endC (n : Nat) (x : Except Stop Unit) : underL n (endC x) = true := by cases x <;> rfl
theorem c_run_of {a : AV} {f : FuncId} {caps : List AV} {h h1 : AHeap} {x : Except Stop Unit} (hl : h1.length = h.length) (hu : hUnder h.length h1 = true) (hc : ∀ H, normL H caps = caps) (hg : ACalls Tryz.prog f caps (h ++ [.cells [I 0, I 0, .nils, S em], .cells [Bo false]]) fun r h' => r = endU x ∧ h' = h1 ++ [.cells [I 0, I 0, .nils, S em], .cells [Bo false]]) :
    ACalls Tryz.prog 36 [a, .fn (.func f) [] caps] h fun r h' => r = .ret (.tuple [.agg (endC x), Bo (isE x)]) ∧ h' = h1 := by
  refine c_interp_run a (g := f) (first := []) (caps := caps) (by rw [List.nil_append, hc]; exact hg) ?_ ?_
  · rintro r h' ⟨rfl, rfl⟩ _
    have e1 : (h1 ++ [AObj.cells [I 0, I 0, .nils, S em], AObj.cells [Bo false]])[h.length]? = some (.cells [I 0, I 0, .nils, S em]) := by rw [← hl]; simp
    have e2 : (h1 ++ [AObj.cells [I 0, I 0, .nils, S em], AObj.cells [Bo false]])[h.length + 1]? = some (.cells [Bo false]) := by rw [← hl]; simp
    have e3 : (h1 ++ [AObj.cells [I 0, I 0, .nils, S em], AObj.cells [Bo false]]).take h.length = h1 := by rw [← hl]; simp
    refine ⟨⟨_, e1, rfl⟩, ⟨_, e2⟩, by rw [e3]; exact hu, ?_⟩
    rw [e3]
    rcases x with z | u
    · exact ⟨rfl, rfl, by simp [underL, AV.under], rfl, rfl⟩
    · exact ⟨rfl, rfl⟩
  · rintro h' st ⟨h1, _⟩ H
    rcases x with z | u
    · simp only [endU, stopAV, AEnd.panic.injEq, AV.iface.injEq, AV.agg.injEq, true_and] at h1
      subst h1
      rfl
    · cases h1
theorem c_machine_finish {h : AHeap} (x : Except Stop Unit) (s : MS) (hm : h[m]? = some (.cells (mC C v o io ir ip s.q))) (hio : h[io]? = some (.arr 47 3 (s.out.map V.c))) (hir : h[ir]? = some (.arr 9 1 (s.reads.map sRow))) (hip : h[ip]? = some (.arr 9 1 (s.puts.map sRow)))
    (ho : h[o]? = some (.map (kAV vAV s.own))) (hl : s.puts.length + 1 ≤ 68719476736) :
    ACalls Tryz.prog 35 [.ptr m 0, .agg (endC x), Bo (isE x)] h fun r h' => r = .ret (.agg (doneS (x, s)).c) ∧ h' = h := by
  rcases x with z | u
  · exact c_machine_finish_stop s.q hm hir hip rfl rfl z
  · exact c_machine_finish_ok s.q hm hio hir hip ho rfl rfl rfl hl
theorem c_interp_Run (p : Proc) (args : List V) (st : List Pr) (ft : Foot) (h : AHeap) (hg : h[g]? = some (tabO tT tx)) (hI : RunIn fmtI p args st) :
    ACalls Tryz.prog 10 [.agg p.c, .slice (args.map V.c), .slice (st.map Pr.c), .agg ft.c] h fun r h' => r = .ret (.agg (runS fmtI p args st ft).c) ∧ h' = h := by
  refine acalls_introB Tryz.func10 rfl (by kernel_rfl) (by simp [Tryz.ntmps10]) ?_
  intro E hN hh hu hb hb' hua
  rw [Tryz.ntmps10] at hN
  refine awp_of_wpC _ _ _ ?_
  simp [go_sem] at hb
  simp -dsimp [go_sem, hN]
  refine tcall_pure (c_cost_Check p) ?_
  simp -dsimp [go_sem, hN]
  refine tgcall_pure (c_types_Args p args) (by simp) ?_
  simp -dsimp [go_sem, hN]
  refine tgcall_pure (c_state_Valid st) (by simp) ?_
  simp -dsimp [go_sem, hN]
  refine tgcall_pure (c_interp_valid ft.all ft.reads ft.writes) (by simp) ?_
  simp -dsimp [go_sem, hN]
  repeat refine ⟨by grind, ?_⟩
  refine cnd (fun h0 => ?_) (fun h0 => ?_) <;> simp at h0
  · have hno : ¬ runOk p args st ft := by rw [runOk_iff]; grind
    rw [runS_no hno]
    simp -dsimp [go_sem, hN]
    refine tcall (c_interp_wrong _) ?_
    rintro r h' ⟨rfl, rfl⟩
    simp -dsimp [go_sem, hN]
    exact ⟨_, .refl _, h, by simp [go_sem], hwk.app0 _, Nat.le_refl _, hu, rfl, rfl⟩
  have hok : runOk p args st ft := by rw [runOk_iff]; grind
  have hok' := (runOk_iff _ _ _ _).1 hok
  have hlen := (argsErr_ok hok'.2.1).1
  rw [runS_yes hok]
  simp -dsimp [go_sem, hN]
  refine tcall (c_interp_newMachine st ft _) ?_
  rintro r h' ⟨rfl, rfl⟩
  simp -dsimp [go_sem, hN]
  have Y := MH_run (tb := tabO tT tx) (tV := 47) (tS := 9) st ft fmtI h [.cells p.c, .cells ft.c, effZ] [.cells [.ptr (h.length + 6) 0]] hg hu 3 1 rfl rfl (by simp [hUnder, AObj.under, AV.under, underL, Proc.c, Foot.c]) (by simp [hUnder, AObj.under, AV.under, underL])
  simp only [List.cons_append, List.nil_append, Nat.reduceAdd] at Y
  refine awp_loopA (α := List (Bytes × V)) p.params.length (fun n vs => setArgs (p.params.drop n) (args.drop n) vs = setArgs p.params args []) (fun n vs => ⟨[(1, .slice (args.map V.c)), (4, .ptr h.length 0), (8, .ptr (h.length + 2) 0), (9, .ptr (h.length + 7) 0), (36, .slice (p.params.map Param.c)), (37, I p.params.length), (38, I n)], h ++ [.cells p.c, .cells ft.c, effZ, .cells ft.c, .map (kAV vAV vs), .map (kAV vAV []), .cells (mC (cfgR fmtI st ft) (h.length + 4) (h.length + 5) (h.length + 8) (h.length + 9) (h.length + 10) ⟨vs, [], [], [], [], 0, 0, 0, 0⟩), .cells [.ptr (h.length + 6) 0], .arr 47 3 [], .uarr 9 1 [], .uarr 9 1 []]⟩) [] (by simp) ?_ ?_
  · refine (nilc_wk E _ (p := h.length + 6) (j := 8) (t := 47) (sz := 3) (xs := [.slice (st.map Pr.c), Bo ft.all, .slice (ft.reads.map sRow), .slice (ft.writes.map sRow), .mapr (h.length + 4), .mapr (h.length + 5), I 0, I 0, .nils, .nils, .nils, .nils, S em, I 0]) (by simp) rfl).trans ?_
    simp
    refine (nilcu_wk E _ (p := h.length + 6) (j := 9) (t := 9) (sz := 1) (xs := [.slice (st.map Pr.c), Bo ft.all, .slice (ft.reads.map sRow), .slice (ft.writes.map sRow), .mapr (h.length + 4), .mapr (h.length + 5), I 0, I 0, .own (h.length + 8) 0, .nils, .nils, .nils, S em, I 0]) (by simp) rfl).trans ?_
    simp
    refine (nilcu_wk E _ (p := h.length + 6) (j := 10) (t := 9) (sz := 1) (xs := [.slice (st.map Pr.c), Bo ft.all, .slice (ft.reads.map sRow), .slice (ft.writes.map sRow), .mapr (h.length + 4), .mapr (h.length + 5), I 0, I 0, .own (h.length + 8) 0, .own (h.length + 9) 0, .nils, .nils, S em, I 0]) (by simp) rfl).trans ?_
    simp [kAV, kvEnc]
    exact (Wk.mk (by simp [hh]) (by simp [go_sem]) (by simp [hu, hUnder_ext hu, go_sem]) (by simp [go_sem]))
  intro n vs hn hI2
  have hw := wrapS hn hb.1.2.1.1
  simp -dsimp [go_sem, hN]
  refine cnd (fun hc => ?_) (fun hc => ?_) <;> simp at hc
  · have hc2 : n < args.length := by omega
    simp -dsimp [go_sem, hN, hc]
    refine awp_drawQ 10 mixed (by kernel_rfl) (by kernel_rfl) ?_
    simp -dsimp [go_sem, hN, hc, hc2, hw]
    refine ⟨kSet vs p.params[n].name args[n], ?_, Wk.mk (by simp [hh]) (by simp [go_sem]) (by simp [hu, hUnder_ext hu, go_sem, kAV_u2]) (by simp [go_sem])⟩
    rw [drop_next hc, drop_next hc2, setArgs] at hI2
    exact hI2
  · rw [List.drop_eq_nil_of_le hc, List.drop_eq_nil_of_le (by omega), setArgs_nil] at hI2
    subst hI2
    obtain ⟨x, s1, hB⟩ : ∃ x s1, blkI (cfgR fmtI st ft) p.body (ms0 p args) = (x, s1) := ⟨_, _, rfl⟩
    have hd := (dl_blk (C := cfgR fmtI st ft) (fun q hq => hI.st q hq) p.body 1 (ms0 p args) (cost_okL hok'.1) (cost_goS hok'.1 hI.body) (inv0 hI)).pu
    rw [hB] at hd
    have hnl := cost_nL hok'.1
    have hlim := cost_lim hok'.1
    simp only [List.length_nil, Nat.zero_add] at hd
    have Y2 := Y.ext [.cells [I 0, I 0, .nils, S em], .cells [Bo false]] (by simp [hUnder, AObj.under, AV.under, underL])
    have hr := c_interp_Run1 (C := cfgR fmtI st ft) rfl (fun q hq => hI.st q hq) p (cost_goS hok'.1 hI.body) Y2 (ms0 p args) (inv0 hI) (a := h.length + 7) (b := h.length) (by intro q; simp) (by intro q; simp)
    rw [hB] at hr
    have hrun := c_run_of (a := .ptr (h.length + 6) 0) (by simp) (by simp [hUnder_app, hu, hUnder_mono, hUnder_ext hu, go_sem, kAV_u2, MS.q]) (fun H => by simp [normL, AV.norm]) hr
    simp -dsimp [go_sem, hN]
    refine awp_drawK 6 3 [0] mixed (by kernel_rfl) ?_
    simp -dsimp [go_sem, hN]
    refine tkcall_ret hrun ?_
    simp -dsimp [go_sem, hN]
    obtain ⟨Hd, hHd⟩ : ∃ Hd : AObj → AObj → AHeap, ∀ u1 u2, Hd u1 u2 = h ++ [.cells p.c, .cells ft.c, effZ, .cells ft.c, .map (kAV vAV s1.vars), .map (kAV vAV s1.own), .cells (mC (cfgR fmtI st ft) (h.length + 4) (h.length + 5) (h.length + 8) (h.length + 9) (h.length + 10) s1.q), .cells [.ptr (h.length + 6) 0], .arr 47 3 (s1.out.map V.c), u1, u2] := ⟨fun u1 u2 => _, fun _ _ => rfl⟩
    have hw2 : ∀ E, Wk E ⟨[], Hd (.uarr 9 1 (s1.reads.map sRow)) (.uarr 9 1 (s1.puts.map sRow))⟩ ⟨[], Hd (.arr 9 1 (s1.reads.map sRow)) (.arr 9 1 (s1.puts.map sRow))⟩ := fun E => by
      have d1 := demote_wk E ⟨[], Hd (.uarr 9 1 (s1.reads.map sRow)) (.uarr 9 1 (s1.puts.map sRow))⟩ (i := h.length + 9) (t := 9) (sz := 1) (rows := s1.reads.map sRow) (by simp [hHd])
      have d2 := demote_wk E ⟨[], Hd (.arr 9 1 (s1.reads.map sRow)) (.uarr 9 1 (s1.puts.map sRow))⟩ (i := h.length + 10) (t := 9) (sz := 1) (rows := s1.puts.map sRow) (by simp [hHd])
      refine d1.trans ?_
      have e1 : (Hd (.uarr 9 1 (s1.reads.map sRow)) (.uarr 9 1 (s1.puts.map sRow))).set (h.length + 9) (.arr 9 1 (s1.reads.map sRow)) = Hd (.arr 9 1 (s1.reads.map sRow)) (.uarr 9 1 (s1.puts.map sRow)) := by simp [hHd]
      have e2 : (Hd (.arr 9 1 (s1.reads.map sRow)) (.uarr 9 1 (s1.puts.map sRow))).set (h.length + 10) (.arr 9 1 (s1.puts.map sRow)) = Hd (.arr 9 1 (s1.reads.map sRow)) (.arr 9 1 (s1.puts.map sRow)) := by simp [hHd]
      rw [e2] at d2
      rw [e1]
      exact d2
    have hfin := c_machine_finish (C := cfgR fmtI st ft) (m := h.length + 6) (v := h.length + 4) (o := h.length + 5) (io := h.length + 8) (ir := h.length + 9) (ip := h.length + 10) (h := Hd (.arr 9 1 (s1.reads.map sRow)) (.arr 9 1 (s1.puts.map sRow))) x s1 (by simp [hHd]) (by simp [hHd]) (by simp [hHd]) (by simp [hHd]) (by simp [hHd]) (by omega)
    have hfin2 := acalls_wk hw2 hfin
    rw [hHd, hHd] at hfin2
    refine tcall hfin2 ?_
    rintro r h' ⟨rfl, rfl⟩
    simp -dsimp [go_sem, hN]
    rw [hB]
    exact ⟨_, .refl _, h, by simp [go_sem], hwk.app0 _, Nat.le_refl _, hu, rfl, rfl⟩
theorem c_interp_Free (p : Proc) (args : List V) (st : List Pr) (h : AHeap) (hg : h[g]? = some (tabO tT tx)) (hI : RunIn fmtI p args st) :
    ACalls Tryz.prog 12 [.agg p.c, .slice (args.map V.c), .slice (st.map Pr.c)] h fun r h' => r = .ret (.agg (runS fmtI p args st ⟨true, [], []⟩).c) ∧ h' = h := by
  refine acalls_introB Tryz.func12 rfl (by kernel_rfl) (by simp [Tryz.ntmps12]) ?_
  intro E hN hh hu hb hb' hua
  rw [Tryz.ntmps12] at hN
  refine awp_of_wpC _ _ _ ?_
  have hgl : g < h.length := (List.getElem?_eq_some_iff.1 hg).1
  simp -dsimp [go_sem, hN]
  refine tcall (c_interp_Run p args st ⟨true, [], []⟩ _ (g := g) (tT := tT) (tx := tx) (by rw [List.getElem?_append_left hgl]; exact hg) hI) ?_
  rintro r h' ⟨rfl, rfl⟩
  simp -dsimp [go_sem, hN]
  exact ⟨_, .refl _, h, by simp [go_sem], hwk.app0 _, Nat.le_refl _, hu, rfl, rfl⟩
end Go.Proofs.YtcmbmfmpelnimaaGreatDoor

set_option maxRecDepth 8000
set_option maxHeartbeats 2000000
namespace Go.Proofs.YtcmbmfmpelnimaaGreatDoor
open Go Go.Abs Go.Cw
def bk : Bytes := ⟨#[107]⟩
def bn : Bytes := ⟨#[110]⟩
def bx : Bytes := ⟨#[120]⟩
def bX : Bytes := ⟨#[88]⟩
def addP : Proc := ⟨⟨#[97, 100, 100]⟩, [⟨bk, 2⟩, ⟨bn, 1⟩], [.mk 3 em 0 (.mk 3 0 bk []) (.mk 4 0 em [.mk 22 0 em [.mk 3 0 bk []], .mk 3 0 bn []]) [] []]⟩
theorem c_law15_add : APure Tryz.prog 49 [] (.agg addP.c) := by
  refine apure_introB Tryz.func49 rfl (by kernel_rfl) (by simp [Tryz.ntmps49]) rfl ?_
  intro E h hN hh hu hb
  rw [Tryz.ntmps49] at hN
  refine awp_of_wpC _ _ _ ?_
  simp -dsimp [go_sem, hN]
  exact ⟨rfl, rfl, rfl⟩
theorem at_tab {tT : TypeId} {tx : Nat × Nat} {g : Nat} {f : FuncId} {args : List AV} {r : AV} {h : AHeap} (H : ∀ h, h[g]? = some (tabO tT tx) → ACalls Tryz.prog f args h fun e h' => e = .ret r ∧ h' = h) (hg : h[g]? = some (tabO tT tx)) : APureAt Tryz.prog f args r h := fun h' hs => H h' (hs g _ _ _ hg)
def exSt : List Pr := [⟨bx, vI 5⟩]
def exArgs : List V := [vS bx, vI 2]
def exBad : List V := [vS bX, vI 2]
def exWant : Eff := ⟨1, 0, [], [bx], [bx], [⟨bx, vI 7⟩], em, 1⟩
def exAgain : Eff := ⟨3, 0, [], [], [], [], bx, 1⟩
theorem ex1 : runS fmtI addP exArgs exSt ⟨false, [bx], [bx]⟩ = exWant := by kernel_rfl
theorem ex2 : runS fmtI addP exArgs exSt ⟨false, [], []⟩ = exAgain := by kernel_rfl
theorem ex3 : runS fmtI addP exBad exSt ⟨true, [], []⟩ = ⟨2, 1004, [], [], [], [], em, 1⟩ := by kernel_rfl
theorem ok_digit (k : Nat) (h : k < 10) : okB (UInt8.ofNat (48 + k)) = true := by
  have : ∀ k : Fin 10, okB (UInt8.ofNat (48 + k.val)) = true := by decide
  exact this ⟨k, h⟩
theorem ok_digits : ∀ (u : Nat), ∀ b ∈ Lib.decDigits u, okB b = true := by
  intro u
  induction u using Nat.strongRecOn with
  | ind u ih =>
    intro b hb
    rw [Lib.decDigits] at hb
    split at hb
    · rename_i h
      simp only [List.mem_singleton] at hb
      subst hb
      exact ok_digit _ h
    · rename_i h
      rw [List.mem_append] at hb
      rcases hb with hb | hb
      · exact ih (u / 10) (by omega) b hb
      · simp only [List.mem_singleton] at hb
        subst hb
        exact ok_digit _ (Nat.mod_lt _ (by decide))
theorem plain_itoa (n : Int) (hn : i64 n) : plainS (fmtI n) = true := by
  have hl := Lib.itoa_length_le n hn.1 hn.2
  unfold plainS
  rw [Bool.and_eq_true, decide_eq_true_eq, allL_iff]
  refine ⟨fun b hb => ?_, ?_⟩
  · have hb : b ∈ Lib.itoa n := by simpa [bl, fmtI] using hb
    unfold Lib.itoa at hb
    split at hb
    · rcases List.mem_cons.1 hb with rfl | hb
      · decide
      · exact ok_digits _ b hb
    · exact ok_digits _ b hb
  · show (((Lib.itoa n).toArray.size : Nat) : Int) ≤ 64
    rw [List.size_toArray]
    omega
theorem exIn (args : List V) (ha : ∀ v ∈ args, rngV v) : RunIn fmtI addP args exSt := by
  refine ⟨plain_itoa, ?_, ha, ?_⟩
  · intro t ht
    simp only [addP, List.mem_singleton] at ht
    subst ht
    have hz : i64 0 := ⟨by decide, by decide⟩
    have hk : rngX (.mk 3 0 bk []) := (rngX_iff _).2 ⟨⟨hz, by decide⟩, by simp [Ex.args]⟩
    have hn : rngX (.mk 3 0 bn []) := (rngX_iff _).2 ⟨⟨hz, by decide⟩, by simp [Ex.args]⟩
    have hg : rngX (.mk 22 0 em [.mk 3 0 bk []]) := (rngX_iff _).2 ⟨⟨hz, by decide⟩, by simp [Ex.args, hk]⟩
    refine (rngS_iff _).2 ⟨hk, (rngX_iff _).2 ⟨⟨hz, by decide⟩, by simp [Ex.args, hg, hn, St.b]⟩, by simp [St.body], by simp [St.els]⟩
  · intro q hq
    simp only [exSt, List.mem_singleton] at hq
    subst hq
    exact rng_vI ⟨by decide, by decide⟩
theorem exA (args : List V) (h : args = exArgs ∨ args = exBad) : ∀ v ∈ args, rngV v := by
  have h1 : rngV (vI 2) := rng_vI ⟨by decide, by decide⟩
  have h2 : ∀ s : Bytes, s.size ≤ 64 → rngV (vS s) := fun s hs => ⟨⟨by simp [vS], by simp [vS]⟩, by simp only [vS]; omega⟩
  rcases h with rfl | rfl
  · intro v hv
    simp only [exArgs, List.mem_cons, List.not_mem_nil, or_false] at hv
    rcases hv with rfl | rfl
    · exact h2 _ (by decide)
    · exact h1
  · intro v hv
    simp only [exBad, List.mem_cons, List.not_mem_nil, or_false] at hv
    rcases hv with rfl | rfl
    · exact h2 _ (by decide)
    · exact h1
section
variable {tT : TypeId} {tx : Nat × Nat} {g : Nat}
theorem c_ex1 : ∀ h, h[g]? = some (tabO tT tx) → ACalls Tryz.prog 10 [.agg addP.c, .slice (exArgs.map V.c), .slice (exSt.map Pr.c), .agg (Foot.c ⟨false, [bx], [bx]⟩)] h fun e h' => e = .ret (.agg exWant.c) ∧ h' = h := fun h hg => by
  have := c_interp_Run addP exArgs exSt ⟨false, [bx], [bx]⟩ h hg (exIn _ (exA _ (.inl rfl)))
  rwa [ex1] at this
theorem c_ex2 : ∀ h, h[g]? = some (tabO tT tx) → ACalls Tryz.prog 10 [.agg addP.c, .slice (exArgs.map V.c), .slice (exSt.map Pr.c), .agg (Foot.c ⟨false, [], []⟩)] h fun e h' => e = .ret (.agg exAgain.c) ∧ h' = h := fun h hg => by
  have := c_interp_Run addP exArgs exSt ⟨false, [], []⟩ h hg (exIn _ (exA _ (.inl rfl)))
  rwa [ex2] at this
theorem c_ex3 : ∀ h, h[g]? = some (tabO tT tx) → ACalls Tryz.prog 12 [.agg addP.c, .slice (exBad.map V.c), .slice (exSt.map Pr.c)] h fun e h' => e = .ret (.agg (Eff.c ⟨2, 1004, [], [], [], [], em, 1⟩)) ∧ h' = h := fun h hg => by
  have := c_interp_Free addP exBad exSt h hg (exIn _ (exA _ (.inr rfl)))
  rwa [ex3] at this
theorem c_sm1 : APure Tryz.prog 9 [.agg exWant.c, .agg exWant.c] (Bo true) := by
  have := c_ref15_Same exWant exWant
  rwa [show sameE exWant exWant = true by decide] at this
theorem c_sm2 : APure Tryz.prog 9 [.agg exAgain.c, .agg exAgain.c] (Bo true) := by
  have := c_ref15_Same exAgain exAgain
  rwa [show sameE exAgain exAgain = true by decide] at this
theorem c_law15_examples (h : AHeap) (hg : h[g]? = some (tabO tT tx)) : ACalls Tryz.prog 14 [] h fun r h' => r = .ret (Bo true) ∧ h' = h := by
  refine acalls_introB Tryz.func14 rfl (by kernel_rfl) (by simp [Tryz.ntmps14]) ?_
  intro E hN hh hu hb hb' hua
  rw [Tryz.ntmps14] at hN
  refine awp_of_wpC _ _ _ ?_
  have hgl : g < h.length := (List.getElem?_eq_some_iff.1 hg).1
  have hg' : ∀ l : AHeap, (h ++ l)[g]? = some (tabO tT tx) := fun l => by rw [List.getElem?_append_left hgl]; exact hg
  simp -dsimp [go_sem, hN]
  refine awp_drawQ 9 mixed (by kernel_rfl) (by kernel_rfl) ?_
  simp -dsimp [go_sem, hN]
  refine tdcall c_law15_add (by simp) ?_
  simp -dsimp [go_sem, hN]
  refine tdcall_at (fun _ => at_tab c_ex3 (hg' _)) (by simp) ?_
  simp -dsimp [go_sem, hN]
  refine awp_drawQ 16 mixed (by kernel_rfl) (by kernel_rfl) ?_
  simp -dsimp [go_sem, hN]
  refine tdcall c_law15_add (by simp) ?_
  simp -dsimp [go_sem, hN]
  refine tdcall_at (fun _ => at_tab c_ex1 (hg' _)) (by simp) ?_
  simp -dsimp [go_sem, hN]
  refine tdcall c_sm1 (by simp) ?_
  simp -dsimp [go_sem, hN]
  refine tdcall c_law15_add (by simp) ?_
  simp -dsimp [go_sem, hN]
  refine tdcall_at (fun _ => at_tab c_ex2 (hg' _)) (by simp) ?_
  simp -dsimp [go_sem, hN]
  refine tgcall_pure c_sm2 (by simp) ?_
  simp -dsimp [go_sem, hN]
  exact ⟨_, .refl _, h, rfl, hwk.app0 _, Nat.le_refl _, hu, rfl, rfl⟩
end
end Go.Proofs.YtcmbmfmpelnimaaGreatDoor

set_option maxRecDepth 8000
set_option maxHeartbeats 2000000
namespace Go.Proofs.YtcmbmfmpelnimaaGreatDoor
open Go Go.Abs Go.Cw
theorem sameL_refl {α : Type} {f : α → α → Bool} (hf : ∀ x, f x x = true) : ∀ l, sameL f l l = true
  | [] => rfl
  | x :: l => by simp [sameL, hf, sameL_refl hf l]
theorem sameE_refl (e : Eff) : sameE e e = true := by
  simp [sameE, sameL_refl (f := eqVal) (fun x => by simp [eqVal]), sameL_refl (f := eqB) (fun x => by simp [eqB]), sameL_refl (f := eqP) (fun x => by simp [eqP, eqVal])]
variable {tT : TypeId} {tx : Nat × Nat} {g : Nat}
end Go.Proofs.YtcmbmfmpelnimaaGreatDoor

set_option maxRecDepth 8000
set_option maxHeartbeats 2000000
namespace Go.Proofs.YtcmbmfmpelnimaaGreatDoor
open Go Go.Abs Go.Cw
variable {tT : TypeId} {tx : Nat × Nat} {g : Nat}
def runC (p : Proc) (args : List V) (ft : Foot) : List AV := [S p.name, .slice (p.params.map Param.c), .slice (p.body.map St.c), .slice (args.map V.c), Bo ft.all, .slice (ft.reads.map sRow), .slice (ft.writes.map sRow)]
attribute [local go_sem] runC
end Go.Proofs.YtcmbmfmpelnimaaGreatDoor

set_option maxRecDepth 8000
set_option maxHeartbeats 2000000
namespace Go.Proofs.YtcmbmfmpelnimaaGreatDoor
open Go Go.Abs Go.Cw
theorem c_ref15_ascending (l : List Bytes) : APure Tryz.prog 86 [.slice (l.map sRow)] (Bo (ascK none l && decide ((l.length : Int) ≤ 64))) := by
  refine apure_introB Tryz.func86 rfl (by kernel_rfl) (by simp [Tryz.ntmps86]) rfl ?_
  intro E h hN hh hu hb
  rw [Tryz.ntmps86] at hN
  refine awp_of_wpC _ _ _ ?_
  simp [go_sem] at hb
  simp -dsimp [go_sem, hN]
  refine awp_loopN l.length (fun n => ascK (prevOf l n) (l.drop n) = ascK none l) (fun n => ⟨[(0, .slice (l.map sRow)), (3, I n)], h⟩) (by simp [prevOf]) (Wk.mk (by simp [hh]) (by simp [go_sem]) (by simp [hu, hUnder_ext hu, go_sem]) (by simp [go_sem])) ?_
  intro n hn hI
  have hw := wrapS hn hb.1
  simp -dsimp [go_sem, hN]
  refine cnd (fun hc => ?_) (fun hc => ?_) <;> simp at hc
  · rw [drop_next hc, ascK] at hI
    simp -dsimp [go_sem, hN, hc]
    refine awp_drawQ 19 mixed (by kernel_rfl) (by kernel_rfl) ?_
    simp -dsimp [go_sem, hN, hc]
    refine tdcall (c_ref04_Valid _) (by simp) ?_
    cases n with
    | zero =>
      simp -dsimp [go_sem, hN]
      refine cnd (fun hg => ?_) (fun hg => ?_) <;> try simp at hg
      · simp -dsimp [go_sem, hN]
        grind [prevOf, after]
      · simp -dsimp [go_sem, hN, hw]
        exact ⟨hc, by simpa [hg, prevOf, hc, after] using hI, (Wk.mk (by simp [hh]) (by simp [go_sem]) (by simp [hu, hUnder_ext hu, go_sem]) (by simp [go_sem]))⟩
    | succ m =>
      have hm : m < l.length := by omega
      have hw2 := wrapN (Nat.le_of_lt hm) hb.1
      simp at hw
      simp -dsimp [go_sem, hN, hw2, hm, hc]
      refine ⟨fun hk => ⟨hk, by omega⟩, cnd (fun hg => ?_) (fun hg => ?_)⟩ <;> rw [sLe_not] at hg <;> simp at hg
      · simp -dsimp [go_sem, hN]
        rw [← hI]
        rcases hg with h1 | h1 <;> simp [prevOf, hm, after, h1]
      · simp -dsimp [go_sem, hN, hw]
        simp [hg, prevOf, hm, after] at hI
        exact ⟨hc, by simpa [prevOf, hc] using hI, (Wk.mk (by simp [hh]) (by simp [go_sem]) (by simp [hu, hUnder_ext hu, go_sem]) (by simp [go_sem]))⟩
  · rw [List.drop_eq_nil_of_le (by omega), ascK] at hI
    simp -dsimp [go_sem, hN, ← hI]
theorem c_ref15_ValidFoot (f : Foot) : APure Tryz.prog 42 [.agg f.c] (Bo (footOk f.all f.reads f.writes)) := by
  refine apure_introB Tryz.func42 rfl (by kernel_rfl) (by simp [Tryz.ntmps42]) rfl ?_
  intro E h hN hh hu hb
  rw [Tryz.ntmps42] at hN
  refine awp_of_wpC _ _ _ ?_
  simp -dsimp [go_sem, hN]
  refine cnd (fun h0 => ?_) (fun h0 => ?_) <;> try simp at h0
  all_goals simp -dsimp [go_sem, hN, footOk, h0]
  refine tcall_pure (c_ref15_ascending f.reads) ?_
  simp -dsimp [go_sem, hN]
  refine tgcall_pure (c_ref15_ascending f.writes) (by simp) ?_
  simp -dsimp [go_sem, hN, footOk, h0]
variable {tT : TypeId} {tx : Nat × Nat} {g : Nat}
attribute [local go_sem] runC
end Go.Proofs.YtcmbmfmpelnimaaGreatDoor

set_option maxRecDepth 4000
set_option maxHeartbeats 4000000
namespace Go.Proofs.YtcmbmfmpelnimaaGreatDoor
open Go Go.Abs Go.Cw
section
attribute [local go_sem] RM.c
variable (C : Cfg)
theorem c_ref15_two (m : RM) (op : Int) (a b : V) (ha : rngV a) (hb2 : rngV b) : APure Tryz.prog 148 [.agg (m.c C), I op, .agg a.c, .agg b.c] (.tuple [.agg (twoR m op a b).1.c, .agg ((twoR m op a b).2.c C)]) := by
  refine apure_introB Tryz.func148 rfl (by kernel_rfl) (by simp [Tryz.ntmps148]) rfl ?_
  intro E h hN hh hu hb
  rw [Tryz.ntmps148] at hN
  refine awp_of_wpC _ _ _ ?_
  by_cases hA : op = 4 ∨ op = 5 ∨ op = 6 ∨ op = 7 ∨ op = 8
  · have e : twoR m op a b = if a.k = 1 ∧ b.k = 1 then calcR m (arithR op a.n b.n) else (V.nil, m.ab 1009) := by unfold twoR; rw [if_pos hA]
    rw [e]
    rcases hA with rfl | rfl | rfl | rfl | rfl <;>
    · simp -dsimp [go_sem, hN]
      refine cnd (fun h1 => ?_) (fun h1 => ?_)
      · rw [if_neg (by simp at h1; grind)]
        simp -dsimp [go_sem, hN]
        refine tcall_pure (c_ref15_wrong C m) ?_
        simp -dsimp [go_sem, hN]
      · rw [if_pos (by simpa using h1)]
        simp -dsimp [go_sem, hN]
        refine tcall_pure (c_ref15_arithmetic _ a.n b.n ha.1 hb2.1) ?_
        simp -dsimp [go_sem, hN]
        refine tcall_pure (c_ref15_calculated C m _ _) ?_
        simp -dsimp [go_sem, hN]
  have hA' : op ≠ 4 ∧ op ≠ 5 ∧ op ≠ 6 ∧ op ≠ 7 ∧ op ≠ 8 := by simpa using hA
  obtain ⟨n4, n5, n6, n7, n8⟩ := hA'
  by_cases h16 : op = 16
  · subst h16
    have e : twoR m 16 a b = if a.k = 3 ∧ b.k = 3 then (vB (decide (a.n = 1) && decide (b.n = 1)), m) else (V.nil, m.ab 1009) := by unfold twoR; simp
    rw [e]
    simp -dsimp [go_sem, hN]
    refine cnd (fun h1 => ?_) (fun h1 => ?_)
    · rw [if_neg (by simp at h1; grind)]
      simp -dsimp [go_sem, hN]
      refine tcall_pure (c_ref15_wrong C m) ?_
      simp -dsimp [go_sem, hN]
    · rw [if_pos (by simpa using h1)]
      simp -dsimp [go_sem, hN]
      refine awp_drawG 11 mixed (by kernel_rfl) ?_
      simp -dsimp [go_sem, hN]
      refine tdcall (c_ref15_truth _) (by simp) ?_
      simp -dsimp [go_sem, hN]
      all_goals try simp [sepD, List.zipIdx]
  by_cases h17 : op = 17
  · subst h17
    have e : twoR m 17 a b = if a.k = 3 ∧ b.k = 3 then (vB (decide (a.n = 1) || decide (b.n = 1)), m) else (V.nil, m.ab 1009) := by unfold twoR; simp
    rw [e]
    simp -dsimp [go_sem, hN]
    refine cnd (fun h1 => ?_) (fun h1 => ?_)
    · rw [if_neg (by simp at h1; grind)]
      simp -dsimp [go_sem, hN]
      refine tcall_pure (c_ref15_wrong C m) ?_
      simp -dsimp [go_sem, hN]
    · rw [if_pos (by simpa using h1)]
      simp -dsimp [go_sem, hN]
      refine awp_drawG 11 mixed (by kernel_rfl) ?_
      simp -dsimp [go_sem, hN]
      refine tdcall (c_ref15_truth _) (by simp) ?_
      simp -dsimp [go_sem, hN]
      all_goals try simp [sepD, List.zipIdx]
  by_cases h19 : op = 19
  · subst h19
    have hwid : IntKind.i64.wrap ((a.s.size : Int) + b.s.size) = (a.s.size : Int) + b.s.size := wrapI (by omega) (by have := ha.2; have := hb2.2; omega)
    have hw64 : W64 ((a.s.size : Int) + b.s.size) = (a.s.size : Int) + b.s.size := hwid
    have e : twoR m 19 a b = if a.k = 2 ∧ b.k = 2 then (if 64 < W64 (a.s.size + b.s.size : Int) then (V.nil, m.ab 1006) else (vS (a.s ++ b.s), m)) else (V.nil, m.ab 1009) := by unfold twoR; simp
    rw [hw64] at e
    rw [e]
    simp -dsimp [go_sem, hN, hwid]
    refine cnd (fun h1 => ?_) (fun h1 => ?_)
    · rw [if_neg (by simp at h1; grind)]
      simp -dsimp [go_sem, hN]
      refine tcall_pure (c_ref15_wrong C m) ?_
      simp -dsimp [go_sem, hN]
    · rw [if_pos (by simpa using h1)]
      simp -dsimp [go_sem, hN, hwid]
      refine cnd (fun h2 => ?_) (fun h2 => ?_) <;> simp at h2
      · rw [if_pos h2]
        simp -dsimp [go_sem, hN]
        refine tcall_pure (c_ref15_Abort C m 1006) ?_
        simp -dsimp [go_sem, hN]
      · rw [if_neg (by omega)]
        simp -dsimp [go_sem, hN]
        refine awp_drawG 8 mixed (by kernel_rfl) ?_
        simp -dsimp [go_sem, hN, vS]
        try omega
        all_goals try simp [sepD, List.zipIdx]
        all_goals try omega
  have e : twoR m op a b = if (a.k = 1 ∧ b.k = 1) ∨ (a.k = 2 ∧ b.k = 2) ∨ (a.k = 3 ∧ b.k = 3 ∧ (op = 10 ∨ op = 11)) then (vB (cmpBy op (cmpR a b)), m) else (V.nil, m.ab 1009) := by
    unfold twoR; rw [if_neg hA, if_neg h16, if_neg h17, if_neg h19]
  rw [e]
  simp -dsimp [go_sem, hN, n4, n5, n6, n7, n8, h16, h17, h19]
  repeat refine ⟨by grind, ?_⟩
  refine cnd (fun h1 => ?_) (fun h1 => ?_)
  · rw [if_neg (by simp at h1; grind)]
    simp -dsimp [go_sem, hN]
    refine tcall_pure (c_ref15_wrong C m) ?_
    simp -dsimp [go_sem, hN]
  · rw [if_pos (by simp at h1; grind)]
    simp -dsimp [go_sem, hN]
    refine cnd (fun h2 => ?_) (fun h2 => ?_) <;> simp at h2
    · have e2 : cmpR a b = -1 := by unfold cmpR; rw [if_pos h2]
      rw [e2]
      simp -dsimp [go_sem, hN]
      refine awp_drawG 6 mixed (by kernel_rfl) ?_
      simp -dsimp [go_sem, hN]
      refine tdcall (c_ref15_compared op (-1)) (by simp) ?_
      simp -dsimp [go_sem, hN]
      refine tdcall (c_ref15_truth _) (by simp) ?_
      simp -dsimp [go_sem, hN]
      all_goals try simp [sepD, List.zipIdx]
    · simp -dsimp [go_sem, hN]
      refine cnd (fun h3 => ?_) (fun h3 => ?_) <;> simp at h3
      · have e2 : cmpR a b = 1 := by unfold cmpR; rw [if_neg (by grind), if_neg (by unfold eqVal; grind)]
        rw [e2]
        simp -dsimp [go_sem, hN]
        refine awp_drawG 6 mixed (by kernel_rfl) ?_
        simp -dsimp [go_sem, hN]
        refine tdcall (c_ref15_compared op 1) (by simp) ?_
        simp -dsimp [go_sem, hN]
        refine tdcall (c_ref15_truth _) (by simp) ?_
        simp -dsimp [go_sem, hN]
        all_goals try simp [sepD, List.zipIdx]
      · have e2 : cmpR a b = 0 := by unfold cmpR; rw [if_neg (by grind), if_pos (by unfold eqVal; grind)]
        rw [e2]
        simp -dsimp [go_sem, hN]
        refine awp_drawG 6 mixed (by kernel_rfl) ?_
        simp -dsimp [go_sem, hN]
        refine tdcall (c_ref15_compared op 0) (by simp) ?_
        simp -dsimp [go_sem, hN]
        refine tdcall (c_ref15_truth _) (by simp) ?_
        simp -dsimp [go_sem, hN]
        all_goals try simp [sepD, List.zipIdx]
theorem c_ref15_one (m : RM) (op : Int) (a : V) (ha : rngV a) (hF : ∀ n, i64 n → APure Tryz.prog 205 [I n] (S (C.fmt n))) (hB : m.reads.length + 1 ≤ 68719476736) : APure Tryz.prog 149 [.agg (m.c C), I op, .agg a.c] (.tuple [.agg (oneR C m op a).1.c, .agg ((oneR C m op a).2.c C)]) := by
  refine apure_introB Tryz.func149 rfl (by kernel_rfl) (by simp [Tryz.ntmps149]) rfl ?_
  intro E h hN hh hu hb
  rw [Tryz.ntmps149] at hN
  refine awp_of_wpC _ _ _ ?_
  have hw : (∀ X : Prop, X → X) := fun _ h => h
  by_cases h9 : op = 9
  · subst h9
    have e : oneR C m 9 a = if a.k ≠ 1 then (V.nil, m.ab 1009) else calcR m (numNeg a.n) := by unfold oneR; simp [wantR]
    rw [e]
    simp -dsimp [go_sem, hN]
    refine cnd (fun h1 => ?_) (fun h1 => ?_)
    · rw [if_pos (by simpa using h1)]
      simp -dsimp [go_sem, hN]
      refine tcall_pure (c_ref15_wrong C m) ?_
      simp -dsimp [go_sem, hN]
    · rw [if_neg (by simpa using h1)]
      simp -dsimp [go_sem, hN]
      refine tcall_pure (c_ref01_Neg a.n ha.1) ?_
      simp -dsimp [go_sem, hN]
      refine tcall_pure (c_ref15_calculated C m _ _) ?_
      simp -dsimp [go_sem, hN]
  by_cases h18 : op = 18
  · subst h18
    have e : oneR C m 18 a = if a.k ≠ 3 then (V.nil, m.ab 1009) else (vB (decide (a.n = 0)), m) := by unfold oneR; simp [wantR]
    rw [e]
    simp -dsimp [go_sem, hN]
    refine cnd (fun h1 => ?_) (fun h1 => ?_)
    · rw [if_pos (by simpa using h1)]
      simp -dsimp [go_sem, hN]
      refine tcall_pure (c_ref15_wrong C m) ?_
      simp -dsimp [go_sem, hN]
    · rw [if_neg (by simpa using h1)]
      simp -dsimp [go_sem, hN]
      refine awp_drawG 6 mixed (by kernel_rfl) ?_
      simp -dsimp [go_sem, hN]
      refine tdcall (c_ref15_truth _) (by simp) ?_
      simp -dsimp [go_sem, hN]
      all_goals try simp [sepD, List.zipIdx]
  by_cases h20 : op = 20
  · subst h20
    have e : oneR C m 20 a = if a.k ≠ 1 then (V.nil, m.ab 1009) else (vS (C.fmt a.n), m) := by unfold oneR; simp [wantR]
    rw [e]
    simp -dsimp [go_sem, hN]
    refine cnd (fun h1 => ?_) (fun h1 => ?_)
    · rw [if_pos (by simpa using h1)]
      simp -dsimp [go_sem, hN]
      refine tcall_pure (c_ref15_wrong C m) ?_
      simp -dsimp [go_sem, hN]
    · rw [if_neg (by simpa using h1)]
      simp -dsimp [go_sem, hN]
      refine awp_drawG 6 mixed (by kernel_rfl) ?_
      simp -dsimp [go_sem, hN]
      refine tdcall (hF a.n ha.1) (by simp) ?_
      simp -dsimp [go_sem, hN, vS]
      all_goals try simp [sepD, List.zipIdx]
  by_cases h21 : op = 21
  · subst h21
    have e : oneR C m 21 a = if a.k ≠ 2 then (V.nil, m.ab 1009) else (vI a.s.size, m) := by unfold oneR; simp [wantR]
    rw [e]
    simp -dsimp [go_sem, hN]
    refine cnd (fun h1 => ?_) (fun h1 => ?_)
    · rw [if_pos (by simpa using h1)]
      simp -dsimp [go_sem, hN]
      refine tcall_pure (c_ref15_wrong C m) ?_
      simp -dsimp [go_sem, hN]
    · rw [if_neg (by simpa using h1)]
      simp -dsimp [go_sem, hN]
      refine awp_drawG 6 mixed (by kernel_rfl) ?_
      simp -dsimp [go_sem, hN]
      refine tdcall (c_ref15_num a.s.size) (by simp) ?_
      simp -dsimp [go_sem, hN]
      all_goals try simp [sepD, List.zipIdx]
  have e : oneR C m op a = if a.k ≠ 2 then (V.nil, m.ab 1009) else
      if (fetchR C m a.s).2.st ≠ 0 then (V.nil, (fetchR C m a.s).2)
      else if op = 24 then (vB (!decide ((fetchR C m a.s).1.k = 0)), (fetchR C m a.s).2)
      else if (fetchR C m a.s).1.k = 0 then (⟨if op = 23 then 2 else 1, 0, em⟩, (fetchR C m a.s).2)
      else if (fetchR C m a.s).1.k ≠ (if op = 23 then 2 else 1) then (V.nil, (fetchR C m a.s).2.ab 1003)
      else ((fetchR C m a.s).1, (fetchR C m a.s).2) := by
    unfold oneR wantR
    simp only [h9, h18, h20, h21, if_false, or_self]
  rw [e]
  simp -dsimp [go_sem, hN, h9, h18, h20, h21]
  refine cnd (fun h1 => ?_) (fun h1 => ?_)
  · rw [if_pos (by simpa using h1)]
    simp -dsimp [go_sem, hN]
    refine tcall_pure (c_ref15_wrong C m) ?_
    simp -dsimp [go_sem, hN]
  rw [if_neg (by simpa using h1)]
  simp -dsimp [go_sem, hN, h9, h18, h20, h21]
  refine tcall_pure (c_ref15_Fetch C m a.s hB) ?_
  obtain ⟨x, hx⟩ : ∃ x, fetchR C m a.s = x := ⟨_, rfl⟩
  obtain ⟨v, t⟩ := x
  simp only [hx]
  simp -dsimp [go_sem, hN]
  refine tcall_pure (c_ref15_running C t) ?_
  simp -dsimp [go_sem, hN]
  refine cnd (fun h2 => ?_) (fun h2 => ?_) <;> simp at h2
  · rw [if_pos h2]
    simp -dsimp [go_sem, hN]
    refine awp_drawG 3 mixed (by kernel_rfl) ?_
    simp -dsimp [go_sem, hN, V.nil]
    all_goals try simp [sepD, List.zipIdx]
  rw [if_neg (by simp [h2])]
  simp -dsimp [go_sem, hN]
  refine cnd (fun h3 => ?_) (fun h3 => ?_) <;> simp at h3
  · rw [if_pos h3]
    simp -dsimp [go_sem, hN]
    refine awp_drawG 6 mixed (by kernel_rfl) ?_
    simp -dsimp [go_sem, hN]
    refine tdcall (c_ref15_truth _) (by simp) ?_
    simp -dsimp [go_sem, hN]
    all_goals try simp [sepD, List.zipIdx]
  rw [if_neg h3]
  simp -dsimp [go_sem, hN]
  by_cases h23 : op = 23
  · subst h23
    simp -dsimp [go_sem, hN]
    refine cnd (fun h4 => ?_) (fun h4 => ?_) <;> simp at h4
    · rw [if_pos h4]
      simp -dsimp [go_sem, hN]
      refine awp_drawG 4 mixed (by kernel_rfl) ?_
      simp -dsimp [go_sem, hN]
      all_goals try simp [sepD, List.zipIdx]
    rw [if_neg h4]
    simp -dsimp [go_sem, hN]
    refine cnd (fun h5 => ?_) (fun h5 => ?_) <;> simp at h5
    · rw [if_pos (by simpa using h5)]
      simp -dsimp [go_sem, hN]
      refine tcall_pure (c_ref15_Abort C t 1003) ?_
      simp -dsimp [go_sem, hN, V.nil]
    rw [if_neg (by simpa using h5)]
    simp -dsimp [go_sem, hN]
    refine awp_drawG 3 mixed (by kernel_rfl) ?_
    simp -dsimp [go_sem, hN]
    all_goals try simp [sepD, List.zipIdx]
  · simp -dsimp [go_sem, hN, h23]
    refine cnd (fun h4 => ?_) (fun h4 => ?_) <;> simp at h4
    · rw [if_pos h4]
      simp -dsimp [go_sem, hN, h23]
      refine awp_drawG 4 mixed (by kernel_rfl) ?_
      simp -dsimp [go_sem, hN, h23]
      all_goals try simp [sepD, List.zipIdx]
    rw [if_neg h4]
    simp -dsimp [go_sem, hN]
    refine cnd (fun h5 => ?_) (fun h5 => ?_) <;> simp at h5
    · rw [if_pos (by simpa [h23] using h5)]
      simp -dsimp [go_sem, hN]
      refine tcall_pure (c_ref15_Abort C t 1003) ?_
      simp -dsimp [go_sem, hN, V.nil]
    rw [if_neg (by simpa [h23] using h5)]
    simp -dsimp [go_sem, hN]
    refine awp_drawG 3 mixed (by kernel_rfl) ?_
    simp -dsimp [go_sem, hN]
    all_goals try simp [sepD, List.zipIdx]
theorem c_ref15_Operate (m : RM) (op : Int) (l : List V) (hl : ∀ v ∈ l, rngV v) (hF : ∀ n, i64 n → APure Tryz.prog 205 [I n] (S (C.fmt n))) (hB : m.reads.length + 1 ≤ 68719476736) : APure Tryz.prog 102 [.agg (m.c C), I op, .slice (l.map V.c)] (.tuple [.agg (opR C m op l).1.c, .agg ((opR C m op l).2.c C)]) := by
  refine apure_introB Tryz.func102 rfl (by kernel_rfl) (by simp [Tryz.ntmps102]) rfl ?_
  intro E h hN hh hu hb
  rw [Tryz.ntmps102] at hN
  refine awp_of_wpC _ _ _ ?_
  rcases l with _ | ⟨a, _ | ⟨b, _ | ⟨c, r⟩⟩⟩
  · rw [show opR C m op [] = (V.nil, m.ab 1009) from rfl]
    simp -dsimp [go_sem, hN]
    refine tcall_pure (c_ref15_wrong C m) ?_
    simp -dsimp [go_sem, hN]
  · rw [show opR C m op [a] = oneR C m op a from rfl]
    simp -dsimp [go_sem, hN]
    refine awp_drawQ 8 mixed (by kernel_rfl) (by kernel_rfl) ?_
    simp -dsimp [go_sem, hN]
    refine tdcall (c_ref15_one C m op a (hl a (by simp)) hF hB) (fun _ => trivial) ?_
    simp -dsimp [go_sem, hN]
    all_goals try simp [sepD, List.zipIdx]
  · rw [show opR C m op [a, b] = twoR m op a b from rfl]
    simp -dsimp [go_sem, hN]
    refine awp_drawQ 11 mixed (by kernel_rfl) (by kernel_rfl) ?_
    simp -dsimp [go_sem, hN]
    refine tdcall (c_ref15_two C m op a b (hl a (by simp)) (hl b (by simp))) (fun _ => trivial) ?_
    simp -dsimp [go_sem, hN]
    all_goals try simp [sepD, List.zipIdx]
  · rw [show opR C m op (a :: b :: c :: r) = (V.nil, m.ab 1009) from rfl]
    simp -dsimp [go_sem, hN]
    refine cnd (fun h1 => ?_) (fun h1 => ?_) <;> simp at h1
    · omega
    simp -dsimp [go_sem, hN]
    refine cnd (fun h1 => ?_) (fun h1 => ?_) <;> simp at h1
    · omega
    simp -dsimp [go_sem, hN]
    refine tcall_pure (c_ref15_wrong C m) ?_
    simp -dsimp [go_sem, hN]
end
end Go.Proofs.YtcmbmfmpelnimaaGreatDoor

set_option maxRecDepth 4000
set_option maxHeartbeats 4000000
namespace Go.Proofs.YtcmbmfmpelnimaaGreatDoor
open Go Go.Abs Go.Cw
section
attribute [local go_sem] RM.c
variable (C : Cfg) (hC : rngC C) (hf : ∀ n, i64 n → plainS (C.fmt n) = true) (hF : ∀ n, i64 n → APure Tryz.prog 205 [I n] (S (C.fmt n)))
abbrev zRM : List AV := [.nils, Bo false, .nils, .nils, .nils, .nils, I 0, I 0, .nils, .nils, .nils, .nils, S em, I 0]
include hC hf hF
theorem c_ref15_eval_of (e : Ex) (m : RM) (r p : Nat) (hX : rngX e) (hI0 : RInv (r + nodes e) p m) (hm : m.st = 0)
    (hEA : ∀ a ∈ e.args, ∀ (m : RM) (r p : Nat), rngX a → RInv (r + nodes a) p m → m.st = 0 → APure Tryz.prog 56 [.agg (m.c C), .agg a.x] (.tuple [.agg (evR C a m).1.c, .agg ((evR C a m).2.c C)])) :
    APure Tryz.prog 56 [.agg (m.c C), .agg e.x] (.tuple [.agg (evR C e m).1.c, .agg ((evR C e m).2.c C)]) := by
  refine apure_introB Tryz.func56 rfl (by kernel_rfl) (by simp [Tryz.ntmps56]) rfl ?_
  intro E h hN hh hu hb
  rw [Tryz.ntmps56] at hN
  refine awp_of_wpC _ _ _ ?_
  have hX' := (rngX_iff _).1 hX
  simp [go_sem] at hb
  rw [evR_eq]
  simp -dsimp [go_sem, hN]
  refine cnd (fun h1 => ?_) (fun h1 => ?_) <;> simp at h1
  · rw [if_pos h1]
    simp -dsimp [go_sem, hN]
    refine awp_drawG 5 mixed (by kernel_rfl) ?_
    simp -dsimp [go_sem, hN]
    refine tdcall (c_ref15_num e.n) (by simp) ?_
    simp -dsimp [go_sem, hN]
    all_goals try simp [sepD, List.zipIdx]
  rw [if_neg h1]
  simp -dsimp [go_sem, hN]
  refine cnd (fun h2 => ?_) (fun h2 => ?_) <;> simp at h2
  · rw [if_pos h2]
    simp -dsimp [go_sem, hN]
    refine awp_drawG 5 mixed (by kernel_rfl) ?_
    simp -dsimp [go_sem, hN, vS]
    all_goals try simp [sepD, List.zipIdx]
  rw [if_neg h2]
  simp -dsimp [go_sem, hN]
  refine cnd (fun h3 => ?_) (fun h3 => ?_) <;> simp at h3
  · rw [if_pos h3]
    simp -dsimp [go_sem, hN]
    refine tcall_pure (c_ref06_Has m.vars e.s) ?_
    simp -dsimp [go_sem, hN]
    refine cnd (fun h4 => ?_) (fun h4 => ?_) <;> simp at h4
    · rw [if_neg (by simp [h4])]
      simp -dsimp [go_sem, hN]
      refine tcall_pure (c_ref15_wrong C m) ?_
      simp -dsimp [go_sem, hN]
    · rw [if_pos h4]
      simp -dsimp [go_sem, hN]
      refine awp_drawG 7 mixed (by kernel_rfl) ?_
      simp -dsimp [go_sem, hN]
      refine tdcall (c_ref06_Get m.vars e.s) (by simp) ?_
      simp -dsimp [go_sem, hN]
      all_goals try simp [sepD, List.zipIdx]
  rw [if_neg h3]
  simp -dsimp [go_sem, hN]
  have hn := nodes_eq e
  refine awp_loopA (α := List V × RM) e.args.length (fun n a => a.1.length = n ∧ (∀ v ∈ a.1, rngV v) ∧ a.2.st = 0 ∧ RInv (r + 1 + nodesL (e.args.drop n)) p a.2 ∧ evRL C e.args m = (a.1 ++ (evRL C (e.args.drop n) a.2).1, (evRL C (e.args.drop n) a.2).2))
    (fun n a => ⟨[(2, P0 h.length), (3, P0 (h.length + 1)), (4, P0 (h.length + 2)), (5, P0 (h.length + 3)), (6, .own (h.length + 4) a.1.length), (7, I n)], h ++ [.cells (a.2.c C), .cells e.x, .cells [I 0, I 0, S em], .cells zRM, .arr 47 3 (a.1.map V.c)]⟩)
    ([], m) ⟨rfl, by simp, hm, by simpa using hI0.mono (by omega) (Nat.le_refl _), by simp⟩ ((nil_wk E _ 6 47 3 (by simp [go_sem])).trans ?_) ?_
  · simp
    exact (Wk.mk (by simp [hh]) (by simp [go_sem]) (by simp [hu, hUnder_ext hu, go_sem]) (by simp [go_sem]))
  rintro n ⟨acc, mm⟩ hn' ⟨hal, hav, hms, hRI, hI⟩
  dsimp only at hal hav hms hRI hI
  have hw := wrapS hn' (show _ ≤ 68719476736 by first | exact hb.2.1 | exact hb.2 | exact hb.1 | omega)
  simp -dsimp [go_sem, hN]
  refine cnd (fun hc => ?_) (fun hc => ?_) <;> simp at hc
  · rw [drop_next hc] at hI hRI
    rw [nodesL_cons] at hRI
    rw [evRL] at hI
    have hRI' : RInv ((r + 1 + nodesL (e.args.drop (n + 1))) + nodes e.args[n]) p mm := hRI.mono (by omega) (Nat.le_refl _)
    have hE := evR_inv hC hf e.args[n] mm _ p (hX'.2 _ (List.getElem_mem hc)) hRI' hms
    simp -dsimp [go_sem, hN, hc]
    refine awp_drawG 13 mixed (by kernel_rfl) ?_
    simp -dsimp [go_sem, hN, hc]
    refine tdcall (hEA e.args[n] (List.getElem_mem hc) mm _ p (hX'.2 _ (List.getElem_mem hc)) hRI' hms) (by simp) ?_
    obtain ⟨x, hx⟩ : ∃ x, evR C e.args[n] mm = x := ⟨_, rfl⟩
    obtain ⟨v, t⟩ := x
    simp only [hx] at hI hE ⊢
    simp -dsimp [go_sem, hN]
    refine ⟨by simp [sepD, List.zipIdx], ?_⟩
    refine tcall_pure (c_ref15_running C t) ?_
    simp -dsimp [go_sem, hN]
    refine cnd (fun h4 => ?_) (fun h4 => ?_) <;> simp at h4
    · rw [if_pos h4] at hI
      rw [hI, if_pos h4]
      simp -dsimp [go_sem, hN]
      refine awp_drawG 3 mixed (by kernel_rfl) ?_
      simp -dsimp [go_sem, hN, V.nil]
      all_goals try simp [sepD, List.zipIdx]
    · rw [if_neg (by simp [h4])] at hI
      have hE' := hE h4
      simp -dsimp [go_sem, hN, hw]
      refine ⟨by omega, hc, acc ++ [v], t, ⟨by simp [hal], ?_, h4, hE'.1, ?_⟩, (Wk.mk (by simp [hh]) (by simp [go_sem]) (by simp [hu, hUnder_ext hu, go_sem]) (by simp [go_sem]))⟩
      · intro u hu
        rcases List.mem_append.1 hu with hu | hu
        · exact hav u hu
        · simp at hu; subst hu; exact hE'.2
      · rw [hI]; simp
  · rw [List.drop_eq_nil_of_le (by omega), evRL] at hI
    simp only [List.append_nil] at hI
    rw [hI, if_neg (by simp [hms])]
    simp -dsimp [go_sem, hN]
    have hbd := hRI.lenR
    refine tcall_pure (c_ref15_Operate C mm e.op acc hav hF (by omega)) ?_
    simp -dsimp [go_sem, hN]
theorem c_ref15_eval (e : Ex) (m : RM) (r p : Nat) (hX : rngX e) (hI0 : RInv (r + nodes e) p m) (hm : m.st = 0) : APure Tryz.prog 56 [.agg (m.c C), .agg e.x] (.tuple [.agg (evR C e m).1.c, .agg ((evR C e m).2.c C)]) :=
  c_ref15_eval_of C hC hf hF e m r p hX hI0 hm (fun a ha m' r' p' hXa hIa hma => by
    have hlt : SizeOf.sizeOf a < SizeOf.sizeOf e := Ex.arg_lt ha
    exact c_ref15_eval a m' r' p' hXa hIa hma)
termination_by SizeOf.sizeOf e
end
end Go.Proofs.YtcmbmfmpelnimaaGreatDoor

set_option maxRecDepth 4000
set_option maxHeartbeats 400000
namespace Go.Proofs.YtcmbmfmpelnimaaGreatDoor
open Go Go.Abs Go.Cw
abbrev zRL : List AV := [.nils, Bo false, .nils, .nils, .nils, .nils, I 0, I 0, .nils, .nils, .nils, .nils, S em, I 0]
section
attribute [local go_sem] RM.c
variable (C : Cfg) (hC : rngC C) (hf : ∀ n, i64 n → plainS (C.fmt n) = true) (hF : ∀ n, i64 n → APure Tryz.prog 205 [I n] (S (C.fmt n)))
include hC hf hF
theorem c_ref15_loop (s : St) (a b : Int) (m : RM) (ha : i64 a) (hb2 : i64 b) (hI0 : RInv 0 0 m) (hm : m.st = 0)
    (hBd : ∀ m, RInv 0 0 m → m.st = 0 → APure Tryz.prog 45 [.agg (m.c C), .slice (s.body.map St.c)] (.agg ((blkR C s.body m).c C)))
    (hBi : ∀ m, RInv 0 0 m → m.st = 0 → (blkR C s.body m).st = 0 → RInv 0 0 (blkR C s.body m)) :
    APure Tryz.prog 135 [.agg (m.c C), .agg s.x, I a, I b] (.agg ((if a < b ∧ ((numSub b a).2 ≠ 0 ∨ s.max < (numSub b a).1) then m.ab 1005 else loopR (blkR C s.body) s.name b (b - a).toNat a m).c C)) := by
  refine apure_introB Tryz.func135 rfl (by kernel_rfl) (by simp [Tryz.ntmps135]) rfl ?_
  intro E h hN hh hu hb
  rw [Tryz.ntmps135] at hN
  refine awp_of_wpC _ _ _ ?_
  simp [go_sem] at hb
  obtain ⟨R, hR⟩ : ∃ R, (if a < b ∧ ((numSub b a).2 ≠ 0 ∨ s.max < (numSub b a).1) then m.ab 1005 else loopR (blkR C s.body) s.name b (b - a).toNat a m) = R := ⟨_, rfl⟩
  rw [hR]
  simp -dsimp [go_sem, hN]
  refine tcall_pure (c_ref01_Sub b a hb2 ha) ?_
  simp -dsimp [go_sem, hN]
  refine ⟨by grind, ?_⟩
  refine cnd (fun h1 => ?_) (fun h1 => ?_)
  · rw [if_pos (by simp at h1; grind)] at hR
    subst hR
    simp -dsimp [go_sem, hN]
    refine tcall_pure (c_ref15_Abort C m 1005) ?_
    simp -dsimp [go_sem, hN]
  rw [if_neg (by simp at h1; grind)] at hR
  simp -dsimp [go_sem, hN]
  have hab : b - a < 18446744073709551616 := by have := ha.1; have := hb2.2; omega
  refine awp_loopA (α := RM) (b - a).toNat (fun n mm => (mm.st = 0 → RInv 0 0 mm) ∧ loopR (blkR C s.body) s.name b ((b - a).toNat - n) (a + n) mm = R)
    (fun n mm => ⟨[(3, I b), (4, P0 h.length), (5, P0 (h.length + 1)), (8, P0 (h.length + 2)), (11, I (a + n))], h ++ [.cells (mm.c C), .cells s.x, .cells zRL]⟩) m ⟨fun _ => hI0, by simpa using hR⟩ (Wk.mk (by simp [hh]) (by simp [go_sem]) (by simp [hu, hUnder_ext hu, go_sem]) (by simp [go_sem])) ?_
  rintro n mm hn ⟨hRI, hI⟩
  simp -dsimp [go_sem, hN]
  refine tgcall_pure (c_ref15_running C mm) (by simp) ?_
  simp -dsimp [go_sem, hN]
  refine cnd (fun hc => ?_) (fun hc => ?_) <;> simp at hc
  · have hlt : n < (b - a).toNat := by omega
    have hif : i64 (a + n) := ⟨by have := ha.1; omega, by have := hb2.2; omega⟩
    have hw : IntKind.i64.wrap (a + (n : Int) + 1) = a + ((n + 1 : Nat) : Int) := by rw [wrapI (by have := ha.1; omega) (by have := hb2.2; omega)]; omega
    have hRI := hRI hc.2
    have hcast : a + ((n : Int) + 1) = a + ((n + 1 : Nat) : Int) := by omega
    obtain ⟨f, hfu⟩ : ∃ f, (b - a).toNat - n = f + 1 := ⟨(b - a).toNat - n - 1, by omega⟩
    have hfu2 : (b - a).toNat - (n + 1) = f := by omega
    have hTick := c_ref15_Tick C mm
    have hTi := fun h2 => tickR_inv hRI h2
    rw [hfu, loopR, if_pos ⟨by omega, hc.2⟩, show W64 (a + (n : Int) + 1) = a + ((n + 1 : Nat) : Int) from hw] at hI
    obtain ⟨T, hTe⟩ : ∃ T, tickR mm = T := ⟨_, rfl⟩
    rw [hTe] at hI hTick hTi
    have hTr := c_ref15_running C T
    simp -dsimp [go_sem, hN]
    refine tcall_pure hTick ?_
    simp -dsimp [go_sem, hN]
    refine tcall_pure hTr ?_
    simp -dsimp [go_sem, hN]
    refine cnd (fun h2 => ?_) (fun h2 => ?_) <;> simp at h2
    · have hT := hTi h2
      have hV := hT.var (p := 0) (rng_vI hif) s.name
      have hlv := hT.lenV
      rw [if_pos h2] at hI
      have hset := c_ref15_set T.vars ⟨s.name, vI (a + n)⟩ (by omega)
      have hV0 := hV.mono (Nat.zero_le _) (Nat.le_refl _)
      have hB1 := hBd _ hV0 h2
      have hB2 := hBi _ hV0 h2
      obtain ⟨V, hVe⟩ : ∃ V, setR T.vars ⟨s.name, vI (a + n)⟩ = V := ⟨_, rfl⟩
      rw [hVe] at hset
      simp only [hVe] at hB1 hB2 hI
      obtain ⟨B, hBe⟩ : ∃ B, blkR C s.body { T with vars := V } = B := ⟨_, rfl⟩
      simp only [hBe] at hB1 hB2 hI
      simp only [RM.c] at hB1
      simp -dsimp [go_sem, hN]
      refine awp_drawQ 7 mixed (by kernel_rfl) (by kernel_rfl) ?_
      simp -dsimp [go_sem, hN]
      refine tdcall (c_ref15_num (a + n)) (by simp) ?_
      simp -dsimp [go_sem, hN]
      refine tcall_pure hset ?_
      simp -dsimp [go_sem, hN]
      refine tcall_pure hB1 ?_
      simp -dsimp [go_sem, hN, hw]
      have hlt2 : (n : Int) < b - a := by omega
      refine ⟨hlt2, B, ⟨hB2, ?_⟩, ?_⟩
      · rw [hfu2, hcast]
        exact hI
      · exact (Wk.mk (by simp [hh]) (by simp [go_sem]) (by simp [hu, hUnder_ext hu, go_sem]) (by simp [go_sem]))
    · rw [if_neg h2] at hI
      simp -dsimp [go_sem, hN, hw]
      refine ⟨by omega, T, ⟨fun h3 => absurd h3 h2, by rw [hfu2, hcast]; exact hI⟩, (Wk.mk (by simp [hh]) (by simp [go_sem]) (by simp [hu, hUnder_ext hu, go_sem]) (by simp [go_sem]))⟩
  · have he : loopR (blkR C s.body) s.name b ((b - a).toNat - n) (a + n) mm = mm := by
      by_cases h2 : mm.st = 0
      · exact loopR_end _ (fun g => hc g h2)
      · exact loopR_dead _ _ h2
    rw [he] at hI
    subst hI
    simp -dsimp [go_sem, hN]
end
end Go.Proofs.YtcmbmfmpelnimaaGreatDoor
