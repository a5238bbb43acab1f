/- Part 37 of a proof: W52, W2, W3, W95 -/
import Derived.Test.YtbimdamecieomaaGreatDoorQ26
import Derived.Test.YtbimdamecieomaaGreatDoorQ29
import Derived.Test.YtbimdamecieomaaGreatDoorQ31
import Derived.Test.YtbimdamecieomaaGreatDoorQ34
import Derived.Test.YtbimdamecieomaaGreatDoorQ36
set_option linter.all false

set_option maxRecDepth 4000
set_option maxHeartbeats 2000000
namespace Go.Proofs.YtbimdamecieomaaGreatDoor
open Go Go.Abs Go.Cw
theorem posS_has {k:qac}:∀ {l:List qac},qb7 l→decide (l[qc0 k l]?=some k)=qc8 l k
 | [],_=>by simp [qc0,qc8,anyL]
 | x::l,ha=>by
  obtain ⟨h1,h2⟩:=List.pairwise_cons.1 ha;have ih:=posS_has (k:=k) h2;have e:qc8 (x::l) k=(decide (x=k)||qc8 l k):=by simp [qc8,anyL]
  rw [qc0,e];by_cases hx:sLt x k=true
  ·
   rw [if_pos hx,List.getElem?_cons_succ,ih];have:x≠k:=sLt_ne hx;simp [this]
  ·
   rw [if_neg hx];simp only [List.getElem?_cons_zero,Option.some.injEq];by_cases hk:x=k
   · simp [hk]
   ·
    have:qc8 l k=false:=by
     rcases Bool.eq_false_or_eq_true (qc8 l k) with g | g
     · exact (hx (h1 k (qb3.1 g))).elim
     · exact g
    simp [hk,this]
theorem leS_iff (a b:qac):(sLt b a=true∨b=a)↔sLt a b=false:=by
 constructor
 ·
  rintro (h | rfl)
  · exact sLt_asymm h
  · exact qc2 _
 ·
  intro h;rcases Bool.eq_false_or_eq_true (sLt b a) with g | g
  · exact .inl g
  · exact .inr (sLt_eq (by rw [g];simp) (by rw [h];simp))
theorem c_fp_ascending (l:List qac):APure Tryz.prog 70 [.slice (l.map qbf)] (Bo (ascK none l&&decide ((l.length:Int)≤64))):=by
 refine qaz Tryz.func70 Tryz.ntmps70 rfl (by kernel_rfl) rfl rfl fun E h hN hh hu hb=>?_;simp [go_sem] at hb;simp -dsimp [go_sem,hN];refine qaj l.length (fun n=>ascK (qbc l n) (l.drop n)=ascK none l) (fun n=>⟨[(0,.slice (l.map qbf)),(5,.slice (l.map qbf)),(6,I l.length),(7,I n)],h⟩) (by simp [qbc]) wkA ?_;intro n hn hI;have hw:=qa6 hn hb.1;simp -dsimp [go_sem,hN];refine cnd ?_ ?_<;>intro hc<;>try simp at hc
 ·
  rw [qah hc,ascK] at hI;simp -dsimp [go_sem,hN,hc];refine qab (qdo _) ?_;cases n with
  | zero =>
   simp -dsimp [go_sem,hN];refine cnd ?_ ?_<;>intro hg<;>try simp at hg
   ·
    simp -dsimp [go_sem,hN];simp [← hI,hg,qbc,after]
   ·
    simp -dsimp [go_sem,hN,hw];exact ⟨hc,by simpa [hg,qbc,hc,after] using hI,wkA⟩
  | succ m =>
   have hm:m<l.length:=by omega
   have hw2:=wrapN (Nat.le_of_lt hm) hb.1;simp at hw;simp -dsimp [go_sem,hN,hw2,hm];refine cnd ?_ ?_<;>intro hg<;>try simp at hg
   ·
    simp -dsimp [go_sem,hN];rw [← hI];rcases hg with h1 | h1
    · simp [qbc,hm,after,h1]
    ·
     have h2:=(leS_iff _ _).1 h1;simp [qbc,hm,after,h2]
   ·
    have h2:sLt l[m] l[m+1]=true:=by
     rcases Bool.eq_false_or_eq_true (sLt l[m] l[m+1]) with g | g
     · exact g
     ·
      have:=(leS_iff _ _).2 g;grind
    simp -dsimp [go_sem,hN,hw];simp [hg,qbc,hm,after,h2] at hI;exact ⟨hc,by simpa [qbc,hc] using hI,wkA⟩
 ·
  rw [List.drop_eq_nil_of_le (by omega),ascK] at hI;simp -dsimp [go_sem,hN,← hI]
theorem c_fp_Valid (f:Foot):APure Tryz.prog 41 [.agg f.c] (Bo (qbi f.all f.reads f.writes)):=by
 refine qaz Tryz.func41 Tryz.ntmps41 rfl (by kernel_rfl) rfl rfl fun E h hN hh hu hb=>?_;simp -dsimp [go_sem,hN,Foot.c];refine cnd ?_ ?_<;>intro h0<;>try simp at h0
 all_goals simp -dsimp [go_sem,hN,qbi,h0]
 refine qab (c_fp_ascending f.reads) ?_;simp -dsimp [go_sem,hN];refine qag (c_fp_ascending f.writes) (by simp) ?_;simp -dsimp [go_sem,hN,qbi,h0]
theorem c_fp_meet (a b:List qac) (hs:qb7 b):APure Tryz.prog 42 [.slice (a.map qbf),.slice (b.map qbf)] (Bo (meetS a b)):=by
 refine qaz Tryz.func42 Tryz.ntmps42 rfl (by kernel_rfl) rfl rfl fun E h hN hh hu hb=>?_;simp [go_sem] at hb;simp -dsimp [go_sem,hN];refine qaj a.length (fun n=>((a.drop n).any fun k=>qc8 b k)=meetS a b) (fun n=>⟨[(1,.slice (b.map qbf)),(9,.slice (a.map qbf)),(10,I a.length),(11,I n)],h⟩) (by simp [meetS]) wkA ?_;intro n hn hI;have hw:=qa6 hn (show _≤68719476736 by omega);simp -dsimp [go_sem,hN];refine cnd ?_ ?_<;>intro hc<;>simp at hc
 ·
  rw [qah hc,List.any_cons] at hI;have hbs:=c_BinarySearch b a[n] hs;rw [posS_has hs] at hbs;simp -dsimp [go_sem,hN,hc];refine qab hbs ?_;simp -dsimp [go_sem,hN];refine cnd ?_ ?_<;>intro h1<;>try simp at h1
  ·
   simp -dsimp [go_sem,hN];rw [← hI,h1];simp
  ·
   simp -dsimp [go_sem,hN,hw];exact ⟨hc,by simpa [h1] using hI,wkA⟩
 ·
  rw [List.drop_eq_nil_of_le (by omega),List.any_nil] at hI;simp -dsimp [go_sem,hN,← hI]
theorem foot_asc {f:Foot} (h:qbi f.all f.reads f.writes=true) (ha:f.all=false):qb7 f.reads∧qb7 f.writes:=by
 unfold qbi at h;rw [ha] at h;simp only [Bool.false_eq_true,if_false,Bool.and_eq_true] at h;exact ⟨((ascK_iff _ _).1 h.1.1).2.1,((ascK_iff _ _).1 h.2.1).2.1⟩
theorem c_fp_Conflicts (a b:Foot):APure Tryz.prog 16 [.agg a.c,.agg b.c] (Bo (qci a b)):=by
 refine qaz Tryz.func16 Tryz.ntmps16 rfl (by kernel_rfl) rfl rfl fun E h hN hh hu hb=>?_;simp -dsimp [go_sem,hN,Foot.c];refine qab (c_fp_Valid a) ?_;simp -dsimp [go_sem,hN];refine qag (c_fp_Valid b) (by simp) ?_;simp -dsimp [go_sem,hN];refine cnd ?_ ?_<;>intro h0<;>simp at h0
 ·
  simp -dsimp [go_sem,hN];unfold qci;rw [if_pos (by grind)]
 have hC:qci a b=(meetS a.writes b.writes||(meetS a.writes b.reads||meetS a.reads b.writes)):=by
  unfold qci;rw [if_neg (by grind)]
 have hB:=foot_asc (f:=b) (by grind) (by grind);simp -dsimp [go_sem,hN];refine qab (c_fp_meet a.writes b.writes hB.2) ?_;simp -dsimp [go_sem,hN];refine qag (c_fp_meet a.writes b.reads hB.1) (by simp) ?_;simp -dsimp [go_sem,hN];refine qag (c_fp_meet a.reads b.writes hB.2) (by simp) ?_;simp -dsimp [go_sem,hN,hC];grind
end Go.Proofs.YtbimdamecieomaaGreatDoor

set_option maxRecDepth 4000
namespace Go.Proofs.YtbimdamecieomaaGreatDoor
open Go Go.Abs Go.Cw
theorem c_ref05_Plain (s:qac):APure Tryz.prog 200 [S s] (Bo (qbm s)):=by
 refine qaz Tryz.func200 Tryz.ntmps200 rfl (by kernel_rfl) rfl rfl fun E h hN hh hu hb=>?_;simp [go_sem] at hb;simp -dsimp [go_sem,hN];refine cnd ?_ ?_<;>intro h0<;>simp at h0
 ·
  simp -dsimp [go_sem,hN];simp [qbm,Int.not_le.2 h0]
 simp -dsimp [go_sem,hN];refine qaj s.size (fun n=>allL okB ((bl s).drop n)=allL okB (bl s)) (fun n=>⟨[(0,S s),(3,I n)],h⟩) (by simp) wkA ?_;intro n hn hI;have hw:=qa6 hn hb;simp -dsimp [go_sem,hN];refine cnd ?_ ?_<;>intro hc<;>simp at hc
 ·
  rw [bdrop hc,allL] at hI;simp -dsimp [go_sem,hN,hc];refine cnd (fun hg=>?_) (fun hg=>?_)
  ·
   simp -dsimp [go_sem,hN];simp [qbm,← hI,okB,hg]
  ·
   simp -dsimp [go_sem,hN,hw];exact ⟨hc,by simpa [okB,hg] using hI,wkA⟩
 ·
  rw [bend (by omega),allL] at hI;simp -dsimp [go_sem,hN,qbm,← hI,h0]
theorem c_ref04_Valid (s:qac):APure Tryz.prog 107 [S s] (Bo (qdz s)):=by
 refine qaz Tryz.func107 Tryz.ntmps107 rfl (by kernel_rfl) rfl rfl fun E h hN hh hu hb=>?_;simp [go_sem] at hb;simp -dsimp [go_sem,hN];refine qaj s.size (fun n=>allL keyB ((bl s).drop n)=allL keyB (bl s)) (fun n=>⟨[(0,S s),(3,I n)],h⟩) (by simp) wkA ?_;intro n hn hI;have hw:=qa6 hn hb;simp -dsimp [go_sem,hN];refine cnd ?_ ?_<;>intro hc<;>simp at hc
 ·
  rw [bdrop hc,allL] at hI;simp -dsimp [go_sem,hN,hc];refine ⟨by omega,cnd (fun hg=>?_) (fun hg=>?_)⟩
  ·
   simp -dsimp [go_sem,hN];have:keyB (bAt s n)=false:=by
    simp [keyB] at hg ⊢;omega
   simp [qdz,← hI,this]
  ·
   simp -dsimp [go_sem,hN,hw];have:keyB (bAt s n)=true:=by
    simp [keyB] at hg ⊢;omega
   exact ⟨hc,by simpa [this] using hI,wkA⟩
 ·
  rw [bend (by omega),allL] at hI;have e1:s=em∨1≤(s.size:Int):=sz_em s;rcases e1 with rfl | e1
  · simp -dsimp [go_sem,hN,qdz]
  ·
   have e2:¬ s=em:=by rintro rfl;simp at e1
   simp -dsimp [go_sem,hN,qdz,← hI,e1,e2]
end Go.Proofs.YtbimdamecieomaaGreatDoor

set_option maxRecDepth 4000
namespace Go.Proofs.YtbimdamecieomaaGreatDoor
open Go Go.Abs Go.Cw
attribute [go_sem] eqVal eqP eqB eqA fitA
theorem c_ref06_Same (l l':List Pr):APure Tryz.prog 10 [.slice (l.map Pr.c),.slice (l'.map Pr.c)] (Bo (qcw eqP l l')):=by
 refine qaz Tryz.func10 Tryz.ntmps10 rfl (by kernel_rfl) rfl rfl fun E h hN hh hu hb=>?_;simp [go_sem] at hb;simp -dsimp [go_sem,hN];refine cnd ?_ ?_<;>intro h0<;>simp at h0
 ·
  simp -dsimp [go_sem,hN];exact sameL_len (by omega)
 simp -dsimp [go_sem,hN];refine qaj l.length (fun n=>qcw eqP (l.drop n) (l'.drop n)=qcw eqP l l') (fun n=>⟨[(0,.slice (l.map Pr.c)),(1,.slice (l'.map Pr.c)),(5,I n)],h⟩) (by simp) wkA ?_;intro n hn hI;have hw:=qa6 hn hb.1.1;simp -dsimp [go_sem,hN];refine cnd ?_ ?_<;>intro hc<;>simp at hc
 ·
  have hc':n<l'.length:=by omega
  rw [qah hc,qah hc',qcw] at hI;simp -dsimp [go_sem,hN,hc,hc'];refine qan 8 mixed (by kernel_rfl) (by kernel_rfl) ?_;simp -dsimp [go_sem,hN,hc,hc'];refine cnd ?_ ?_<;>intro hg<;>simp at hg
  ·
   simp -dsimp [go_sem,hN];rw [← hI];simp [eqP,eqVal];grind
  ·
   simp -dsimp [go_sem,hN,hw];refine ⟨hc,?_,wkA⟩;rw [← hI];simp [eqP,eqVal,hg]
 ·
  rw [List.drop_eq_nil_of_le (by omega),List.drop_eq_nil_of_le (by omega),qcw] at hI;simp -dsimp [go_sem,hN,← hI]
theorem c_sameKeys (l l':List qac):APure Tryz.prog 68 [.slice (l.map qbf),.slice (l'.map qbf)] (Bo (qcw eqB l l')):=by
 refine qaz Tryz.func68 Tryz.ntmps68 rfl (by kernel_rfl) rfl rfl fun E h hN hh hu hb=>?_;simp [go_sem] at hb;simp -dsimp [go_sem,hN];refine cnd ?_ ?_<;>intro h0<;>simp at h0
 ·
  simp -dsimp [go_sem,hN];exact sameL_len (by omega)
 simp -dsimp [go_sem,hN];refine qaj l.length (fun n=>qcw eqB (l.drop n) (l'.drop n)=qcw eqB l l') (fun n=>⟨[(0,.slice (l.map qbf)),(1,.slice (l'.map qbf)),(5,I n)],h⟩) (by simp) wkA ?_;intro n hn hI;have hw:=qa6 hn hb.1.1;simp -dsimp [go_sem,hN];refine cnd ?_ ?_<;>intro hc<;>simp at hc
 ·
  have hc':n<l'.length:=by omega
  rw [qah hc,qah hc',qcw] at hI;simp -dsimp [go_sem,hN,hc,hc'];refine qan 8 mixed (by kernel_rfl) (by kernel_rfl) ?_;simp -dsimp [go_sem,hN,hc,hc'];refine cnd ?_ ?_<;>intro hg<;>simp at hg
  ·
   simp -dsimp [go_sem,hN];rw [← hI];simp [eqB,eqVal];grind
  ·
   simp -dsimp [go_sem,hN,hw];refine ⟨hc,?_,wkA⟩;rw [← hI];simp [eqB,eqVal,hg]
 ·
  rw [List.drop_eq_nil_of_le (by omega),List.drop_eq_nil_of_le (by omega),qcw] at hI;simp -dsimp [go_sem,hN,← hI]
set_option maxHeartbeats 1000000 in
theorem c_ref15_Same (a b:Eff):APure Tryz.prog 34 [.agg a.c,.agg b.c] (Bo (sameE a b)):=by
 refine qaz Tryz.func34 Tryz.ntmps34 rfl (by kernel_rfl) rfl rfl fun E h hN hh hu hb=>?_;simp [go_sem] at hb;simp -dsimp [go_sem,hN];refine awp_drawG 7 mixed (by kernel_rfl) ?_;simp -dsimp [go_sem,hN];refine ⟨by simp [sepD,List.zipIdx],?_⟩;refine cnd ?_ ?_<;>intro h0<;>simp at h0
 ·
  simp -dsimp [go_sem,hN];have:sameE a b=false:=by
   rcases h0 with (h0 | h0) | h0
   · simp [sameE,h0]
   · simp [sameE,h0]
   · simp [sameE,sameL_len (f:=eqVal) (l:=a.out) (l':=b.out) (by omega)]
  rw [this]
 simp -dsimp [go_sem,hN];refine qaj a.out.length (fun n=>qcw eqVal (a.out.drop n) (b.out.drop n)=qcw eqVal a.out b.out) (fun n=>⟨[(2,.ptr h.length 0),(3,.ptr (h.length+1) 0),(5,.ptr (h.length+2) 0),(6,.ptr (h.length+3) 0),(7,I n)],h++[.cells a.c,.cells b.c,.cells [I a.status,I a.code,.slice (a.out.map V.c)],.cells [I b.status,I b.code,.slice (b.out.map V.c)]]⟩) (by simp) wkA ?_;intro n hn hI;have hw:=qa6 hn hb.1.1.1;simp -dsimp [go_sem,hN];refine cnd ?_ ?_<;>intro hc<;>simp at hc
 ·
  have hc':n<b.out.length:=by omega
  rw [qah hc,qah hc',qcw] at hI;simp -dsimp [go_sem,hN,hc,hc'];refine qan 10 mixed (by kernel_rfl) (by kernel_rfl) ?_;simp -dsimp [go_sem,hN,hc,hc'];refine cnd ?_ ?_<;>intro hg<;>simp at hg
  ·
   simp -dsimp [go_sem,hN];have:qcw eqVal a.out b.out=false:=by
    rw [← hI];simp [eqVal];grind
   simp [sameE,this]
  ·
   simp -dsimp [go_sem,hN,hw];refine ⟨hc,?_,wkA⟩;rw [← hI];simp [eqVal,hg]
 ·
  rw [List.drop_eq_nil_of_le (by omega),List.drop_eq_nil_of_le (by omega),qcw] at hI;simp -dsimp [go_sem,hN];refine qab (c_sameKeys _ _) ?_;simp -dsimp [go_sem,hN];refine qag (c_sameKeys _ _) (by simp) ?_;simp -dsimp [go_sem,hN];refine qag (c_ref06_Same _ _) (by simp) ?_;simp -dsimp [go_sem,hN,sameE,h0,← hI]
theorem c_Index_S (l:List qac) (k:qac):APure Tryz.prog 81 [.slice (l.map qbf),S k] (I (qcp (fun x=>decide (k=x)) l)):=by
 refine qaz Tryz.func81 Tryz.ntmps81 rfl (by kernel_rfl) rfl rfl fun E h hN hh hu hb=>?_;simp [go_sem] at hb;simp -dsimp [go_sem,hN];refine qaj l.length (fun n=>qbj (fun x=>decide (k=x)) n (l.drop n)=qcp (fun x=>decide (k=x)) l) (fun n=>⟨[(0,.slice (l.map qbf)),(1,S k),(7,I l.length),(8,I n)],h⟩) (by simp [qcp]) wkA ?_;intro n hn hI;have hw:=qa6 hn hb.1.1;simp -dsimp [go_sem,hN];refine cnd ?_ ?_<;>intro hc<;>simp at hc
 ·
  rw [qah hc,qbj] at hI;simp -dsimp [go_sem,hN,hc];refine cnd ?_ ?_<;>intro hg<;>simp at hg
  ·
   simp -dsimp [go_sem,hN];simpa [hg] using hI
  ·
   simp -dsimp [go_sem,hN,hw];exact ⟨hc,by simpa [hg] using hI,wkA⟩
 ·
  rw [List.drop_eq_nil_of_le (by omega),qbj] at hI;simp -dsimp [go_sem,hN,← hI]
theorem c_Contains_S (l:List qac) (k:qac):APure Tryz.prog 49 [.slice (l.map qbf),S k] (Bo (qc8 l k)):=by
 refine qaz Tryz.func49 Tryz.ntmps49 rfl (by kernel_rfl) rfl rfl fun E h hN hh hu hb=>?_;simp -dsimp [go_sem,hN];refine qab (c_Index_S l k) ?_;simp -dsimp [go_sem,hN,idxOf_nonneg];simp [qc8,eq_comm]
end Go.Proofs.YtbimdamecieomaaGreatDoor

set_option maxRecDepth 4000
set_option maxHeartbeats 2000000
namespace Go.Proofs.YtbimdamecieomaaGreatDoor
open Go Go.Abs Go.Cw
def wkS (t:List (Nat×AV)):List (Nat×AV)→Prop
 | []=>True
 | (i,x)::l=>(qba t i).Wk x∧wkS t l
theorem wkS.look {t:List (Nat×AV)}:∀ {l:List (Nat×AV)},wkS t l→∀ i,(qba t i).Wk (qba l i)
 | [],_,i=>.top _
 | (j,x)::l,h,i=>by
  by_cases hj:j=i
  · subst hj;simp only [qba,beq_self_eq_true,cond_true];exact h.1
  ·
   have:(j == i)=false:=by simpa using hj
   simp only [qba,this,cond_false];exact wkS.look h.2 i
theorem Wk.slots {E:Ent} {t t1:List (Nat×AV)} {h:qaa} (ht:wkS t t1):Wk E ⟨t,h⟩ ⟨t1,h⟩:=fun c a w s o=>⟨c,⟨s.defers,s.size,fun i=>ht.look i c _ (s.tmps i),s.hs⟩,o⟩
theorem hwk_of:∀ {X h:qaa},(∀ (i:Nat) (o:AObj),h[i]?=some o→X[i]?=some o)→hwk X h
 | X,[],_=>by cases X<;>trivial
 | [],o::l,k=>by have:=k 0 o rfl;simp at this
 | x::X,o::l,k=>by
  have h0:=k 0 o rfl;simp at h0;subst h0;exact ⟨.refl _,hwk_of fun i o' hi=>by have:=k (i+1) o' (by simpa using hi);simpa using this⟩
def demO:AObj→AObj
 | .uarr t sz rows=>.arr t sz rows
 | o=>o
theorem demAll_get (n0:Nat):∀ (l:qaa) (k i:Nat),(qcx n0 k l)[i]?=(l[i]?).map fun o=>if n0≤k+i then demO o else o
 | [],k,i=>by simp [qcx]
 | o::l,k,0=>by
  by_cases h:n0≤k
  ·
   have h2:Nat.ble n0 k=true:=Nat.ble_eq_true_of_le h;cases o<;>simp [qcx,demO,h,h2]
  ·
   have h2:Nat.ble n0 k=false:=by
    cases hb:Nat.ble n0 k with
    | false=>rfl
    | true=>exact (h (Nat.le_of_ble_eq_true hb)).elim
   cases o<;>simp [qcx,demO,h,h2]
 | o::l,k,i+1=>by
  have:=demAll_get n0 l (k+1) i;rw [show k+1+i=k+(i+1) by omega] at this;cases o<;>simpa [qcx] using this
theorem demAll_len (n0:Nat):∀ (l:qaa) (k:Nat),(qcx n0 k l).length=l.length
 | [],_=>rfl
 | o::l,k=>by cases o<;>simp [qcx,demAll_len n0 l (k+1)]
theorem TabH.freeze (E:Ent) {B:Nat} {t:List (Nat×AV)} {H:qaa} {o g q:Nat} {ks:List Nat} {T:LT} (h:TabH B H o g q ks T) :
  ∃ X,Wk E ⟨t,H⟩ ⟨t,X⟩∧X.length=H.length∧X[o]?=some (.cells [.own g T.glob.length,.own q T.qs.length])∧X[g]?=some (.arr 95 2 (T.glob.map LReq.c))∧X[q]?=some (.arr 107 2 (T.qs.map LQ.c)) ∧
   (∀ i:Nat,i<B→X[i]?=H[i]?)∧∀ (i:Nat) (x:List AV),H[i]?=some (AObj.cells x)→X[i]?=some (AObj.cells x):=by
 obtain ⟨n1,n2,n3⟩:=h.gne;have d1:=demAll_ok E B ⟨t,H⟩;have dl:=demAll_len B H 0;have dg:∀ i,(qcx B 0 H)[i]?=(H[i]?).map fun ob=>if B≤i then demO ob else ob:=fun i=>by simpa using demAll_get B H 0 i
 have eq1:(qcx B 0 H)[q]?=some (.oarr 107 2 (zipQ ks T.qs)):=by rw [dg,h.hq];simp [demO]
 have eg1:(qcx B 0 H)[g]?=some (.arr 95 2 (T.glob.map LReq.c)):=by rw [dg,h.hg];simp [demO,h.bg]
 have eo1:(qcx B 0 H)[o]?=some (.cells [.own g T.glob.length,.own q T.qs.length]):=by rw [dg,h.ho];simp [demO]
 have ek1:∀ p,p∈ks.zip T.qs→(qcx B 0 H)[p.1]?=some (.arr 95 2 (p.2.reqs.map LReq.c)):=fun p hp=>by
  have hB:=h.bk p.1 (List.of_mem_zip hp).1;rcases h.hk p hp with h3 | h3
  · rw [dg,h3];simp [demO,hB]
  · rw [dg,h3];simp [demO]
 have hnorm:(zipQ ks T.qs).map (qa4 (qcx B 0 H))=T.qs.map LQ.c:=by
  apply List.ext_getElem?;intro n;rw [List.getElem?_map,List.getElem?_map];rcases Nat.lt_or_ge n T.qs.length with hn | hn
  ·
   have h1:ks[n]?=some (ks[n]'(by rw [h.hkl];exact hn)):=List.getElem?_eq_getElem _;have h2:T.qs[n]?=some T.qs[n]:=List.getElem?_eq_getElem _;rw [zipQ_get h1 h2,h2];have h3:=ek1 (_,T.qs[n]) (List.mem_of_getElem? (i:=n) (by rw [List.getElem?_zip_eq_some];exact ⟨h1,h2⟩));simp only [Option.map_some,qa4,AV.norm,h3,List.length_map,if_true];rfl
  · rw [List.getElem?_eq_none hn,List.getElem?_eq_none (by rw [zipQ_len h.hkl];exact hn)];rfl
 have w2:=onorm_wk E ⟨t,qcx B 0 H⟩ eq1 (fun r hr=>by
  have:qa4 (qcx B 0 H) r∈T.qs.map LQ.c:=by rw [← hnorm];exact List.mem_map_of_mem hr
  obtain ⟨x,_,hx⟩:=List.mem_map.1 this;rw [← hx];rfl)
 rw [hnorm] at w2;have hql:q<(qcx B 0 H).length:=(List.getElem?_eq_some_iff.1 eq1).1;have w3:=qbz E ⟨t,(qcx B 0 H).set q (.uarr 107 2 (T.qs.map LQ.c))⟩ (i:=q) (List.getElem?_set_self hql);refine ⟨_,(d1.trans w2).trans w3,by simp [dl],?_,?_,?_,fun i hi=>?_,fun i x hx=>?_⟩
 · simp only [List.set_set];rw [List.getElem?_set_ne n3];exact eo1
 · simp only [List.set_set];rw [List.getElem?_set_ne (Ne.symm n2)];exact eg1
 · simp only [List.set_set];exact List.getElem?_set_self hql
 ·
  have h5:=h.bq;simp only [List.set_set];rw [List.getElem?_set_ne (by omega),dg];simp [Nat.not_le.2 hi]
 ·
  have h6:i≠q:=fun e=>by rw [e,h.hq] at hx;cases hx
  simp only [List.set_set];rw [List.getElem?_set_ne (Ne.symm h6),dg,hx];simp [demO]
theorem addQ_length {k:qac} {r:LReq}:∀ (l:List LQ),(addQ k r l).length≤l.length+1
 | []=>by simp [addQ]
 | q::l=>by
  rw [addQ];split
  · have:=addQ_length (k:=k) (r:=r) l;simp;omega
  · split<;>simp
theorem addQ_reqs {k:qac} {r:LReq} {M:Nat}:∀ {l:List LQ},(∀ x∈l,x.reqs.length≤M)→∀ x∈addQ k r l,x.reqs.length≤M+1
 | [],_,x,hx=>by simp [addQ] at hx;subst hx;simp
 | q::l,h,x,hx=>by
  rw [addQ] at hx;split at hx
  ·
   rcases List.mem_cons.1 hx with rfl | hx
   · have:=h x (by simp);omega
   · exact addQ_reqs (fun y hy=>h y (by simp [hy])) x hx
  ·
   split at hx
   ·
    rcases List.mem_cons.1 hx with rfl | hx
    · have:=h q (by simp);simp;omega
    · have:=h x (by simp [hx]);omega
   ·
    rcases List.mem_cons.1 hx with rfl | hx
    · simp
    · have:=h x hx;omega
theorem rowsQ_zip:∀ (k:Nat) (qs:List LQ),rowsQ k qs=zipQ ((List.range qs.length).map fun j=>k+2 * j) qs
 | k,[]=>by simp [rowsQ,zipQ]
 | k,q::l=>by
  rw [rowsQ,rowsQ_zip (k+2) l,List.length_cons,List.range_succ_eq_map];simp only [List.map_cons,List.map_map,zipQ,List.zipWith_cons_cons];congr 2;apply List.map_congr_left;intro j _;simp only [Function.comp];omega
theorem objsQ_get (tR:TypeId):∀ (qs:List LQ) (j:Nat) (h:j<qs.length),(objsQ tR qs)[2 * j+1]?=some (.uarr tR 2 (qs[j].reqs.map LReq.c))
 | q::l,0,_=>rfl
 | q::l,j+1,h=>by
  have:=objsQ_get tR l j (by simpa using h);rw [show 2 * (j+1)+1=(2 * j+1)+1+1 by omega];simpa [objsQ] using this
theorem qsOk_asc {g:List LReq}:∀ {k:Option qac} {l:List LQ},qsOk g k l=true→(∀ p,k=some p→∀ x∈qbg l,sLt p x=true)∧qb7 (qbg l)
 | k,[],_=>⟨fun _ _ x hx=>by simp at hx,List.Pairwise.nil⟩
 | k,q::l,h=>by
  rw [qsOk,Bool.and_eq_true,Bool.and_eq_true,Bool.and_eq_true,Bool.and_eq_true,Bool.and_eq_true] at h;obtain ⟨i1,i2⟩:=qsOk_asc h.2;have h3:=i1 q.key rfl;refine ⟨fun p hp x hx=>?_,List.pairwise_cons.2 ⟨h3,i2⟩⟩;subst hp;have h4:sLt p q.key=true:=h.1.1.1.1.2;rcases List.mem_cons.1 hx with rfl | hx
  · exact h4
  · exact qc9 h4 (h3 x hx)
theorem TabH.setG {B:Nat} {H:qaa} {o g q:Nat} {ks:List Nat} {T:LT} (h:TabH B H o g q ks T) (G:List LReq):TabH B ((H.set g (.uarr 95 2 (G.map LReq.c))).set o (.cells [.own g G.length,.own q T.qs.length])) o g q ks ⟨G,T.qs⟩:=by
 obtain ⟨n1,n2,n3⟩:=h.gne;have ho:=(List.getElem?_eq_some_iff.1 h.ho).1;have hg:=(List.getElem?_eq_some_iff.1 h.hg).1;have key:∀ {i:Nat} {x:AObj},i≠o→i≠g→H[i]?=some x→((H.set g (.uarr 95 2 (G.map LReq.c))).set o (.cells [.own g G.length,.own q T.qs.length]))[i]?=some x:=fun {i x} h1 h2 h3=>by rw [List.getElem?_set_ne (Ne.symm h1),List.getElem?_set_ne (Ne.symm h2)];exact h3
 refine ⟨List.getElem?_set_self (by simpa using ho),?_,key n3 (Ne.symm n2) h.hq,h.hkl,fun p hp=>?_,h.nd,h.gk,h.bo,h.bg,h.bq,h.bk⟩
 · rw [List.getElem?_set_ne (Ne.symm n1)];exact List.getElem?_set_self hg
 ·
  have h3:=h.kne (List.of_mem_zip hp).1;exact (h.hk p hp).imp (key h3.2.1 h3.2.2.2) (key h3.2.1 h3.2.2.2)
theorem tab_clone {h:qaa} {gl:List LReq} {qs:List LQ} {c1 c2 c3:AObj} {H:qaa} (hH:h++[c1,c2,c3]++([AObj.none,.none,.uarr 95 2 (gl.map LReq.c),.none,.oarr 107 2 (rowsQ (h.length+9) qs)]++objsQ 95 qs)=H) :
  TabH (h.length+3) (H++[.cells [.own (h.length+5) gl.length,.own (h.length+7) qs.length]]) H.length (h.length+5) (h.length+7) ((List.range qs.length).map fun j=>h.length+9+2 * j) ⟨gl,qs⟩:=by
 have hl:H.length=h.length+8+2 * qs.length:=by rw [← hH];simp;omega
 have e5:H[h.length+5]?=some (.uarr 95 2 (gl.map LReq.c)):=by rw [← hH];simp
 have e7:H[h.length+7]?=some (.oarr 107 2 (rowsQ (h.length+9) qs)):=by rw [← hH];simp
 have ek:∀ (j:Nat) (hj:j<qs.length),H[h.length+9+2 * j]?=some (.uarr 95 2 (qs[j].reqs.map LReq.c)):=fun j hj=>by
  rw [← hH,List.getElem?_append_right (by simp;omega),List.getElem?_append_right (by simp;omega)];rw [← objsQ_get 95 qs j hj];congr 1;simp;omega
 refine ⟨by simp,by rw [List.getElem?_append_left (by omega)];exact e5,by rw [List.getElem?_append_left (by omega),e7,rowsQ_zip],by simp,fun p hp=>?_,?_,?_,by omega,by omega,by omega,?_⟩
 ·
  obtain ⟨j,hj⟩:=List.getElem?_of_mem hp;rw [List.getElem?_zip_eq_some] at hj;obtain ⟨j1,j2⟩:=hj;have hlt:j<qs.length:=(List.getElem?_eq_some_iff.1 j2).1;rw [List.getElem?_map,List.getElem?_range hlt] at j1;have e1:p.1=h.length+9+2 * j:=(Option.some.inj j1).symm;have e2:p.2=qs[j]:=by rw [List.getElem?_eq_getElem hlt] at j2;exact (Option.some.inj j2).symm
  refine .inl ?_;rw [e1,e2,List.getElem?_append_left (by omega)];exact ek j hlt
 ·
  rw [List.nodup_iff_pairwise_ne,List.pairwise_map];exact List.pairwise_lt_range.imp (fun h=>by omega)
 ·
  intro hg;obtain ⟨j,_,hj⟩:=List.mem_map.1 hg;omega
 ·
  intro k hk;obtain ⟨j,_,rfl⟩:=List.mem_map.1 hk;omega
abbrev addW (n:Int) (l:List LQ) (k:qac):List LQ:=addQ k ⟨n,true⟩ l
abbrev addR (n:Int) (w:List qac) (l:List LQ) (k:qac):List LQ:=if qc8 w k=true then l else addQ k ⟨n,false⟩ l
structure Adds (B:Nat) (X1:qaa) (o g q:Nat) (gl:List LReq) (M:Nat) (X:qaa) (ks:List Nat) (qs:List LQ):Prop where
 tab:TabH B X o g q ks ⟨gl,qs⟩
 len:X1.length≤X.length
 fr:∀ i,i<B→X[i]?=X1[i]?
 asc:qb7 (qbg qs)
 ql:qs.length≤M
 rl:∀ x∈qs,x.reqs.length≤M
theorem awp_seqW {P:Program} {E:Ent} {x y:Code} {Q:AExit→Env→Prop} {e e1:Env} (h:wpC P E x (AExit.then (fun e'=>Wk E e' e1) Q) e) (h2:AWp P E y Q e1):AWp P E (.seq x y) Q e :=
 qau ((qai _ _ _ h).mono fun z e' hz=>by
  cases z with
  | normal=>exact AWp.wk hz h2
  | _=>exact hz)
theorem awp_seqI {P:Program} {E:Ent} {x y:Code} {Q:AExit→Env→Prop} {e:Env} {ι:Type} (J:ι→Prop) (K:ι→Env) (h:wpC P E x (AExit.then (fun e'=>∃ i,J i∧Wk E e' (K i)) Q) e) (h2:∀ i,J i→AWp P E y Q (K i)):AWp P E (.seq x y) Q e :=
 qau ((qai _ _ _ h).mono fun z e' hz=>by
  cases z with
  | normal=>obtain ⟨i,hi,hw⟩:=hz;exact AWp.wk hw (h2 i hi)
  | _=>exact hz)
theorem addQ_mem {k:qac} {r:LReq}:∀ {l:List LQ} {x:qac},x∈qbg (addQ k r l)→x=k∨x∈qbg l
 | [],x,h=>by simp [addQ] at h;exact .inl h
 | q::l,x,h=>by
  rw [addQ] at h;split at h
  ·
   simp only [List.map_cons,List.mem_cons] at h ⊢;rcases h with h | h
   · exact .inr (.inl h)
   · exact (addQ_mem h).imp id .inr
  ·
   split at h
   ·
    simp only [List.map_cons,List.mem_cons] at h ⊢;exact h.imp id .inr
   ·
    simp only [List.map_cons,List.mem_cons] at h ⊢;exact h
theorem addQ_asc {k:qac} {r:LReq}:∀ {l:List LQ},qb7 (qbg l)→qb7 (qbg (addQ k r l))
 | [],_=>by simp [addQ,qb7]
 | q::l,h=>by
  simp only [List.map_cons] at h;obtain ⟨h1,h2⟩:=List.pairwise_cons.1 h;rw [addQ];split
  ·
   rename_i h3;simp only [List.map_cons];refine List.pairwise_cons.2 ⟨fun x hx=>?_,addQ_asc h2⟩;rcases addQ_mem hx with rfl | hx
   · exact h3
   · exact h1 x hx
  ·
   rename_i h3;split
   ·
    rename_i h4;subst h4;simpa only [List.map_cons] using h
   ·
    rename_i h4;have h5:sLt k q.key=true:=by
     rcases Bool.eq_false_or_eq_true (sLt k q.key) with g | g
     · exact g
     · exact (h4 (sLt_eq h3 (by rw [g];simp))).elim
    simp only [List.map_cons];refine List.pairwise_cons.2 ⟨fun x hx=>?_,List.pairwise_cons.2 ⟨h1,h2⟩⟩;rcases List.mem_cons.1 hx with rfl | hx
    · exact h5
    · exact qc9 h5 (h1 x hx)
theorem Adds.add {B:Nat} {X1 X X':qaa} {o g q:Nat} {gl:List LReq} {M:Nat} {ks:List Nat} {qs:List LQ} {k:qac} {r:LReq} (h:Adds B X1 o g q gl M X ks qs) (h1:∃ ks',TabH B X' o g q ks' ⟨gl,addQ k r qs⟩) (h2:X.length≤X'.length) (h3:∀ i,i<B→X'[i]?=X[i]?):∃ ks',Adds B X1 o g q gl (M+1) X' ks' (addQ k r qs):=by
 obtain ⟨ks',h1⟩:=h1;exact ⟨ks',h1,Nat.le_trans h.len h2,fun i hi=>(h3 i hi).trans (h.fr i hi),addQ_asc h.asc,Nat.le_trans (addQ_length qs) (by have:=h.ql;omega),addQ_reqs h.rl⟩
theorem Adds.up {B:Nat} {X1 X:qaa} {o g q:Nat} {gl:List LReq} {M:Nat} {ks:List Nat} {qs:List LQ} (h:Adds B X1 o g q gl M X ks qs):Adds B X1 o g q gl (M+1) X ks qs :=
 ⟨h.tab,h.len,h.fr,h.asc,by have:=h.ql;omega,fun x hx=>by have:=h.rl x hx;omega⟩
theorem foldl_take {α β:Type} (f:β→α→β) (b:β) {l:List α} {n:Nat} (h:n<l.length):(l.take (n+1)).foldl f b=f ((l.take n).foldl f b) l[n]:=by
 rw [List.take_succ_eq_append_getElem h,List.foldl_append];rfl
theorem c_lt_Request (gl:List LReq) (qs:List LQ) (n:Int) (f:Foot) (M:Nat) (hv:validT ⟨gl,qs⟩=true) (hf:qbi f.all f.reads f.writes=true) (h0:0≤n) (hix:qcp (isT n) gl = -1) (hlast:∀ (m:Nat) (hm:m<gl.length),m+1=gl.length→gl[m].t≤n)
  (hgl:gl.length<68719476736) (hq:qs.length≤M) (hr:∀ x∈qs,x.reqs.length≤M) (hM:M+f.writes.length+f.reads.length<68719476736) :
  APure Tryz.prog 21 [.agg (LT.c ⟨gl,qs⟩),I n,.agg f.c] (.tuple [.agg (LT.c ⟨gl++[⟨n,f.all⟩],reqQ n f qs⟩),I 0]):=by
 refine qcz Tryz.func21 rfl (by kernel_rfl) (by simp [Tryz.ntmps21]) rfl ?_;intro E h hN hh hu hb;rw [Tryz.ntmps21] at hN;simp [go_sem,LT.c] at hb;have hasc:qb7 (qbg qs):=by
  unfold validT at hv;rw [Bool.and_eq_true] at hv;exact (qsOk_asc hv.2).2
 refine qau (qcq ?_);simp [go_sem,hN,LT.c,Foot.c];refine awp_seqW (e1:=⟨[(1,I n),(3,P0 h.length),(5,P0 (h.length+1)),(6,P0 (h.length+2)),(7,I 0)],h++[.cells [.slice (gl.map LReq.c),.slice (qs.map LQ.c)],.cells [Bo f.all,.slice (f.reads.map qbf),.slice (f.writes.map qbf)],.cells [.nils,.nils]]⟩) ?_ ?_
 ·
  simp -dsimp [go_sem,hN];refine qab (c_lt_Valid ⟨gl,qs⟩) ?_;simp -dsimp [go_sem,hN,hv];refine qag (c_fp_Valid f) (by simp) ?_;simp -dsimp [go_sem,hN,hf,h0];refine cnd ?_ ?_<;>intro hc<;>simp at hc
  · omega
  simp -dsimp [go_sem,hN];refine qab (c_lt_index gl n) ?_;rw [hix];rcases Nat.eq_zero_or_pos gl.length with hg0 | hg0
  ·
   simp -dsimp [go_sem,hN,hg0];exact wkA
  ·
   obtain ⟨m,hm⟩:∃ m,gl.length=m+1:=⟨gl.length - 1,by omega⟩
   have hw:IntKind.i64.wrap (m:Int)=(m:Int):=wrapI (by omega) (by omega);have hml:m<gl.length:=by omega
   have hl:=hlast m hml hm.symm;have hgm:gl[m]?=some gl[m]:=List.getElem?_eq_getElem hml;simp -dsimp [go_sem,hN,hm,hw,hgm,LReq.c];refine cnd ?_ ?_<;>intro hc<;>simp at hc
   · omega
   simp -dsimp [go_sem,hN];exact wkA
 clear hb;obtain ⟨H,hH⟩:∃ H,h++[.cells [.slice (gl.map LReq.c),.slice (qs.map LQ.c)],.cells [Bo f.all,.slice (f.reads.map qbf),.slice (f.writes.map qbf)],.cells [.nils,.nils]]++([AObj.none,.none,.uarr 95 2 (gl.map LReq.c),.none,.oarr 107 2 (rowsQ (h.length+9) qs)]++objsQ 95 qs)=H:=⟨_,rfl⟩
 have hT0:=tab_clone hH;refine awp_seqW (e1:=⟨[(1,I n),(5,P0 (h.length+1)),(6,P0 (h.length+2)),(7,I 0),(8,P0 H.length)],H++[.cells [.own (h.length+5) gl.length,.own (h.length+7) qs.length]]⟩) ?_ ?_
 ·
  simp -dsimp [go_sem,hN];refine qam (c_lt_clone ⟨gl,qs⟩ _) ?_;rintro r h' ⟨rfl,rfl⟩;simp only [List.length_append,List.length_cons,List.length_nil];rw [hH];simp -dsimp [go_sem,hN];exact Wk.slots (by simp [wkS,go_sem])
 have hHl:H.length=h.length+8+2 * qs.length:=by rw [← hH];simp;omega
 have fr0:∀ i,i<h.length+3→(H++[AObj.cells [.own (h.length+5) gl.length,.own (h.length+7) qs.length]])[i]?=(h++[AObj.cells [.slice (gl.map LReq.c),.slice (qs.map LQ.c)],.cells [Bo f.all,.slice (f.reads.map qbf),.slice (f.writes.map qbf)],.cells [.nils,.nils]])[i]?:=fun i hi=>by
  rw [List.getElem?_append_left (by omega),← hH,List.getElem?_append_left (by simp;omega)]
 obtain ⟨Y,hY⟩:∃ Y,H++[AObj.cells [.own (h.length+5) gl.length,.own (h.length+7) qs.length]]=Y:=⟨_,rfl⟩
 rw [hY] at hT0 fr0 ⊢;have hYl:Y.length=H.length+1:=by rw [← hY];simp
 have y1:Y[h.length+1]?=some (AObj.cells [Bo f.all,.slice (f.reads.map qbf),.slice (f.writes.map qbf)]):=by rw [fr0 _ (by omega)];simp
 have yo:=hT0.ho;have yg:=hT0.hg;have hT1:=hT0.setG (gl++[⟨n,f.all⟩]);refine awp_seqW (e1:=⟨[(1,I n),(5,P0 (h.length+1)),(6,P0 (h.length+2)),(7,I 0),(8,P0 H.length)],(Y.set (h.length+5) (.uarr 95 2 ((gl++[(⟨n,f.all⟩:LReq)]).map LReq.c))).set H.length (.cells [.own (h.length+5) (gl++[(⟨n,f.all⟩:LReq)]).length,.own (h.length+7) qs.length])⟩) ?_ ?_
 ·
  have yo2:∀ Z,(Y.set (h.length+5) Z)[H.length]?=some (.cells [.own (h.length+5) gl.length,.own (h.length+7) qs.length]):=fun Z=>by rw [List.getElem?_set_ne (by omega)];exact yo
  simp -dsimp [go_sem,hN,yo,yg,y1,yo2,hgl,LReq.c];exact ⟨by omega,Wk.slots (by simp [wkS,go_sem])⟩
 obtain ⟨X1,hX1⟩:∃ X1,(Y.set (h.length+5) (.uarr 95 2 ((gl++[(⟨n,f.all⟩:LReq)]).map LReq.c))).set H.length (.cells [.own (h.length+5) (gl++[(⟨n,f.all⟩:LReq)]).length,.own (h.length+7) qs.length])=X1:=⟨_,rfl⟩
 simp only [hX1] at hT1 ⊢;have fr1:∀ i,i<h.length+3→X1[i]?=Y[i]?:=fun i hi=>by rw [← hX1,List.getElem?_set_ne (by omega),List.getElem?_set_ne (by omega)]
 have x1:X1[h.length+1]?=some (AObj.cells [Bo f.all,.slice (f.reads.map qbf),.slice (f.writes.map qbf)]):=by rw [fr1 _ (by omega)];exact y1
 have hX1l:X1.length=H.length+1:=by rw [← hX1];simp [hYl]
 clear hX1 hT0 yo yg;have hA0:Adds (h.length+3) X1 H.length (h.length+5) (h.length+7) (gl++[⟨n,f.all⟩]) (M+0) X1 ((List.range qs.length).map fun j=>h.length+9+2 * j) qs:=⟨hT1,Nat.le_refl _,fun _ _=>rfl,hasc,hq,hr⟩
 have hwl:∀ (X:qaa),(∀ i,i<h.length+3→X[i]?=X1[i]?)→X[h.length+1]?=some (AObj.cells [Bo f.all,.slice (f.reads.map qbf),.slice (f.writes.map qbf)]):=fun X hX=>by rw [hX _ (by omega)];exact x1
 refine awp_seqI (ι:=qaa×List Nat) (fun a=>Adds (h.length+3) X1 H.length (h.length+5) (h.length+7) (gl++[⟨n,f.all⟩]) (M+f.writes.length) a.1 a.2 (f.writes.foldl (addW n) qs))
  (fun a=>⟨[(1,I n),(5,P0 (h.length+1)),(6,P0 (h.length+2)),(7,I 0),(8,P0 H.length)],a.1⟩) ?_ ?_
 ·
  simp -dsimp [go_sem,hN,x1];refine qbh (α:=qaa×List Nat) f.writes.length (fun m a=>Adds (h.length+3) X1 H.length (h.length+5) (h.length+7) (gl++[⟨n,f.all⟩]) (M+m) a.1 a.2 ((f.writes.take m).foldl (addW n) qs))
   (fun m a=>⟨[(1,I n),(5,P0 (h.length+1)),(6,P0 (h.length+2)),(7,I 0),(8,P0 H.length),(65,.slice (f.writes.map qbf)),(66,I f.writes.length),(67,I m)],a.1⟩) (X1,(List.range qs.length).map fun j=>h.length+9+2 * j) (by simpa using hA0) (Wk.slots (by simp [wkS,go_sem])) ?_
  rintro m ⟨X,ks⟩ hm hI;dsimp only at hI;have hw:=qa6 hm (by omega);simp -dsimp [go_sem,hN];refine cnd ?_ ?_<;>intro hc<;>simp at hc
  ·
   have h1:=hI.ql;simp -dsimp [go_sem,hN,hc];refine qam (c_lt_add (r:=⟨n,true⟩) hI.tab _ hI.asc (by simp only;omega) (fun x hx=>by have:=hI.rl x hx;omega)) ?_;rintro r h' ⟨rfl,h2,h3,h4⟩;simp -dsimp [go_sem,hN,hw];obtain ⟨ks',h5⟩:=hI.add h2 h3 h4;refine ⟨hc,h',⟨ks',?_⟩,Wk.slots (by simp [wkS,go_sem])⟩;rw [foldl_take _ _ hc];exact h5
  ·
   have hme:m=f.writes.length:=by omega
   subst hme;simp -dsimp [go_sem,hN];refine ⟨X,⟨ks,?_⟩,Wk.slots (by simp [wkS,go_sem])⟩;simpa using hI
 rintro ⟨X2,ks2⟩ hA2;dsimp only at hA2 ⊢;have x2:=hwl X2 hA2.fr;refine awp_seqI (ι:=qaa×List Nat) (fun a=>Adds (h.length+3) X1 H.length (h.length+5) (h.length+7) (gl++[⟨n,f.all⟩]) (M+f.writes.length+f.reads.length) a.1 a.2 (reqQ n f qs))
  (fun a=>⟨[(5,P0 (h.length+1)),(6,P0 (h.length+2)),(7,I 0),(8,P0 H.length)],a.1⟩) ?_ ?_
 ·
  simp -dsimp [go_sem,hN,x2];refine qbh (α:=qaa×List Nat) f.reads.length (fun m a=>Adds (h.length+3) X1 H.length (h.length+5) (h.length+7) (gl++[⟨n,f.all⟩]) (M+f.writes.length+m) a.1 a.2 ((f.reads.take m).foldl (addR n f.writes) (f.writes.foldl (addW n) qs)))
   (fun m a=>⟨[(1,I n),(5,P0 (h.length+1)),(6,P0 (h.length+2)),(7,I 0),(8,P0 H.length),(77,.slice (f.reads.map qbf)),(78,I f.reads.length),(79,I m)],a.1⟩) (X2,ks2) (by simpa using hA2) (Wk.slots (by simp [wkS,go_sem])) ?_
  rintro m ⟨X,ks⟩ hm hI;dsimp only at hI;have hw:=qa6 hm (by omega);have x3:=hwl X hI.fr;simp -dsimp [go_sem,hN];refine cnd ?_ ?_<;>intro hc<;>simp at hc
  ·
   have h1:=hI.ql;simp -dsimp [go_sem,hN,hc,x3];refine qab (c_Contains_S f.writes _) ?_;simp -dsimp [go_sem,hN];refine cnd ?_ ?_<;>intro hk<;>simp at hk
   ·
    simp -dsimp [go_sem,hN];refine qam (c_lt_add (r:=⟨n,false⟩) hI.tab _ hI.asc (by simp only;omega) (fun x hx=>by have:=hI.rl x hx;omega)) ?_;rintro r h' ⟨rfl,h2,h3,h4⟩;simp -dsimp [go_sem,hN,hw];obtain ⟨ks',h5⟩:=hI.add h2 h3 h4;refine ⟨hc,h',⟨ks',?_⟩,Wk.slots (by simp [wkS,go_sem])⟩;rw [foldl_take _ _ hc];simp only [addR,hk,Bool.false_eq_true,if_false];exact h5
   ·
    simp -dsimp [go_sem,hN,hw];refine ⟨hc,X,⟨ks,?_⟩,Wk.slots (by simp [wkS,go_sem])⟩;rw [foldl_take _ _ hc];simp only [addR,hk,if_true];exact hI.up
  ·
   have hme:m=f.reads.length:=by omega
   subst hme;simp -dsimp [go_sem,hN];refine ⟨X,⟨ks,?_⟩,Wk.slots (by simp [wkS,go_sem])⟩;simpa [reqQ] using hI
 rintro ⟨X3,ks3⟩ hA3;dsimp only at hA3 ⊢;obtain ⟨Z,z1,z2,z3,z4,z5,z6,z7⟩:=hA3.tab.freeze E (t:=[(5,P0 (h.length+1)),(6,P0 (h.length+2)),(7,I 0),(8,P0 H.length)]);have x4:Z[h.length+2]?=some (.cells [.nils,.nils]):=by rw [z6 _ (by omega),hA3.fr _ (by omega),fr1 _ (by omega),fr0 _ (by omega)];simp
 refine AWp.wk z1 (qai _ _ _ ?_);simp -dsimp [go_sem,hN,z3,x4];obtain ⟨W,hW⟩:∃ W,Z.set (h.length+2) (AObj.cells [AV.own (h.length+5) (gl.length+1),AV.own (h.length+7) (reqQ n f qs).length])=W:=⟨_,rfl⟩
 have hz:=(List.getElem?_eq_some_iff.1 x4).1;have w2:W[h.length+2]?=some (AObj.cells [AV.own (h.length+5) (gl.length+1),AV.own (h.length+7) (reqQ n f qs).length]):=by rw [← hW];exact List.getElem?_set_self hz
 have w5:W[h.length+5]?=some (AObj.arr 95 2 ((gl++[(⟨n,f.all⟩:LReq)]).map LReq.c)):=by rw [← hW,List.getElem?_set_ne (by omega)];exact z4
 have w7:W[h.length+7]?=some (AObj.arr 107 2 ((reqQ n f qs).map LQ.c)):=by rw [← hW,List.getElem?_set_ne (by omega)];exact z5
 have wl:W.length=X3.length:=by rw [← hW];simp [z2]
 have wi:∀ i,i<h.length→W[i]?=h[i]?:=fun i hi=>by
  rw [← hW,List.getElem?_set_ne (by omega),z6 _ (by omega),hA3.fr _ (by omega),fr1 _ (by omega),fr0 _ (by omega),List.getElem?_append_left hi]
 rw [hW];simp [go_sem,w2,w5,w7,LT.c];exact hwk_of fun i o hi=>by rw [wi i (List.getElem?_eq_some_iff.1 hi).1];exact hi
end Go.Proofs.YtbimdamecieomaaGreatDoor
