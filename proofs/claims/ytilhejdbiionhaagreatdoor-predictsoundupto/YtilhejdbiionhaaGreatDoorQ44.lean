/- Part 44 of a proof: W52, W143, W144, W149, OP, LB, OC -/
import Derived.Test.YtilhejdbiionhaaGreatDoorRows
import Derived.KernelRfl
import Derived.Test.YtilhejdbiionhaaGreatDoorCards
import Derived.Test.YtilhejdbiionhaaGreatDoorTie
import Derived.ProofKit
import Derived.OpenShut
import Derived.Carry
import Derived.Deep.DeepHandedRow
import Derived.Lib.LaidTab
import Derived.Stop.LaidErr
import Derived.Test.YtilhejdbiionhaaGreatDoorQ20
import Derived.Test.YtilhejdbiionhaaGreatDoorQ25
import Derived.Test.YtilhejdbiionhaaGreatDoorQ30
import Derived.Test.YtilhejdbiionhaaGreatDoorQ31
import Derived.Test.YtilhejdbiionhaaGreatDoorQ33
import Derived.Test.YtilhejdbiionhaaGreatDoorQ36
import Derived.Test.YtilhejdbiionhaaGreatDoorQ40
import Derived.Test.YtilhejdbiionhaaGreatDoorQ43
set_option linter.all false

set_option maxRecDepth 4000
set_option maxHeartbeats 2000000
namespace Go.Proofs.YtilhejdbiionhaaGreatDoor
open Go Go.Abs Go.Cw
theorem posS_has {k:qab}:∀ {l:List qab},ascS l→decide (l[posS k l]?=some k)=hasK l k
 | [],_=>by simp [posS,hasK,anyL]
 | x::l,ha=>by
  obtain ⟨h1,h2⟩:=List.pairwise_cons.1 ha;have ih:=posS_has (k:=k) h2;have e:hasK (x::l) k=(decide (x=k)||hasK l k):=by simp [hasK,anyL]
  rw [posS,e];by_cases hx:sLt x k=true
  ·
   rw [if_pos hx,List.getElem?_cons_succ,ih];have:x≠k:=sLt_ne hx;simp [this]
  ·
   rw [if_neg hx];simp only [List.getElem?_cons_zero,Option.some.injEq];by_cases hk:x=k
   · simp [hk]
   ·
    have:hasK l k=false:=by
     rcases Bool.eq_false_or_eq_true (hasK l k) with g | g
     · exact (hx (h1 k (hasK_iff.1 g))).elim
     · exact g
    simp [hk,this]
theorem leS_iff (a b:qab):(sLt b a=true∨b=a)↔sLt a b=false:=by
 constructor
 ·
  rintro (h | rfl)
  · exact sLt_asymm h
  · exact sLt_irrefl _
 ·
  intro h;rcases Bool.eq_false_or_eq_true (sLt b a) with g | g
  · exact .inl g
  · exact .inr (sLt_eq (by rw [g];simp) (by rw [h];simp))
theorem c_fp_ascending (l:List qab):APure Tryz.prog 47 [.slice (l.map qaz)] (Bo (ascK none l&&decide ((l.length:Int)≤64))):=by
 refine qay Tryz.func47 Tryz.ntmps47 rfl (by kernel_rfl) rfl rfl fun E h hN hh hu hb=>?_;simp [go_sem] at hb;simp -dsimp [go_sem,hN];refine qat l.length (fun n=>ascK (qcc l n) (l.drop n)=ascK none l) (fun n=>⟨[(0,.slice (l.map qaz)),(5,.slice (l.map qaz)),(6,I l.length),(7,I n)],h⟩) (by simp [qcc]) wkA ?_;intro n hn hI;have hw:=qbn hn hb.1;simp -dsimp [go_sem,hN];refine cnd ?_ ?_<;>intro hc<;>try simp at hc
 ·
  rw [qaj hc,ascK] at hI;simp -dsimp [go_sem,hN,hc];refine qac (qdq _) ?_;cases n with
  | zero =>
   simp -dsimp [go_sem,hN];refine cnd ?_ ?_<;>intro hg<;>try simp at hg
   ·
    simp -dsimp [go_sem,hN];simp [← hI,hg,qcc,after]
   ·
    simp -dsimp [go_sem,hN,hw];exact ⟨hc,by simpa [hg,qcc,hc,after] using hI,wkA⟩
  | succ m =>
   have hm:m<l.length:=by omega
   have hw2:=wrapN (Nat.le_of_lt hm) hb.1;simp at hw;simp -dsimp [go_sem,hN,hw2,hm];refine cnd ?_ ?_<;>intro hg<;>try simp at hg
   ·
    simp -dsimp [go_sem,hN];rw [← hI];rcases hg with h1 | h1
    · simp [qcc,hm,after,h1]
    ·
     have h2:=(leS_iff _ _).1 h1;simp [qcc,hm,after,h2]
   ·
    have h2:sLt l[m] l[m+1]=true:=by
     rcases Bool.eq_false_or_eq_true (sLt l[m] l[m+1]) with g | g
     · exact g
     ·
      have:=(leS_iff _ _).2 g;grind
    simp -dsimp [go_sem,hN,hw];simp [hg,qcc,hm,after,h2] at hI;exact ⟨hc,by simpa [qcc,hc] using hI,wkA⟩
 ·
  rw [List.drop_eq_nil_of_le (by omega),ascK] at hI;simp -dsimp [go_sem,hN,← hI]
theorem c_fp_Valid (f:Foot):APure Tryz.prog 17 [.agg f.c] (Bo (qdb f.all f.reads f.writes)):=by
 refine qay Tryz.func17 Tryz.ntmps17 rfl (by kernel_rfl) rfl rfl fun E h hN hh hu hb=>?_;simp -dsimp [go_sem,hN,Foot.c];refine cnd ?_ ?_<;>intro h0<;>try simp at h0
 all_goals simp -dsimp [go_sem,hN,qdb,h0]
 refine qac (c_fp_ascending f.reads) ?_;simp -dsimp [go_sem,hN];refine qah (c_fp_ascending f.writes) (by simp) ?_;simp -dsimp [go_sem,hN,qdb,h0]
end Go.Proofs.YtilhejdbiionhaaGreatDoor

set_option maxRecDepth 8000
set_option maxHeartbeats 4000000
namespace Go.Proofs.YtilhejdbiionhaaGreatDoor
open Go Go.Abs Go.Cw
variable {tT:TypeId} {tx:Nat×Nat} {g:Nat}
theorem c_fp_within (a b:List qab) (ha:ascS a):APure Tryz.prog 52 [.slice (a.map qaz),.slice (b.map qaz)] (Bo (allL (hasK a) b)):=by
 refine qay Tryz.func52 Tryz.ntmps52 rfl (by kernel_rfl) rfl rfl fun E h hN hh hu hb=>?_;simp [go_sem] at hb;simp -dsimp [go_sem,hN];refine qat b.length (fun n=>allL (hasK a) (b.drop n)=allL (hasK a) b) (fun n=>⟨[(0,.slice (a.map qaz)),(9,.slice (b.map qaz)),(10,I b.length),(11,I n)],h⟩) (by simp) wkA ?_;intro n hn hI;have hw:=qbn hn hb.2.1;simp -dsimp [go_sem,hN];refine cnd ?_ ?_<;>intro hc<;>simp at hc
 ·
  rw [qaj hc,allL] at hI;simp -dsimp [go_sem,hN,hc];refine qac (c_BinarySearch a b[n] ha) ?_;rw [posS_has ha];simp -dsimp [go_sem,hN];refine cnd ?_ ?_<;>intro hg<;>simp at hg
  ·
   simp -dsimp [go_sem,hN];rw [← hI,hg];rfl
  ·
   simp -dsimp [go_sem,hN,hw];exact ⟨hc,by rw [← hI,hg];rfl,wkA⟩
 ·
  rw [List.drop_eq_nil_of_le (by omega),allL] at hI;simp -dsimp [go_sem,hN,← hI]
theorem apure_eq {f:FuncId} {args:List AV} {r q:AV} (hr:APure Tryz.prog f args r) (h:r=q):APure Tryz.prog f args q:=h▸hr
theorem c_fp_Covers (a b:Foot) (ha:qdb a.all a.reads a.writes=true) (hb0:qdb b.all b.reads b.writes=true) (hna:a.all=false) (hnb:b.all=false) :
  APure Tryz.prog 20 [.agg a.c,.agg b.c] (Bo (allL (hasK a.reads) b.reads&&allL (hasK a.writes) b.writes)):=by
 obtain ⟨al,r1,q1⟩:=a;obtain ⟨bl,r2,q2⟩:=b;cases hna;cases hnb;refine qay Tryz.func20 Tryz.ntmps20 rfl (by kernel_rfl) rfl rfl fun E h hN hh hu hb=>?_;have hfa:=ha;unfold qdb at hfa;rw [if_neg (by simp)] at hfa;simp only [Bool.and_eq_true,decide_eq_true_eq] at hfa;simp -dsimp [go_sem,hN,Foot.c];refine qac (apure_eq (c_fp_Valid ⟨false,r1,q1⟩) (congrArg Bo ha)) ?_;simp -dsimp [go_sem,hN,Foot.c];refine qah (apure_eq (c_fp_Valid ⟨false,r2,q2⟩) (congrArg Bo hb0)) (by simp) ?_;simp -dsimp [go_sem,hN,Foot.c];refine qah (c_fp_within r1 r2 ((ascK_iff _ _).1 hfa.1.1).2.1) (by simp) ?_;simp -dsimp [go_sem,hN];by_cases h5:allL (hasK r1) r2=true
 ·
  rw [h5];simp -dsimp [go_sem,hN];refine qah (c_fp_within q1 q2 ((ascK_iff _ _).1 hfa.2.1).2.1) (by simp) ?_;simp -dsimp [go_sem,hN]
 ·
  rw [Bool.not_eq_true] at h5;rw [h5];simp -dsimp [go_sem,hN];refine tgcall_false ?_;simp -dsimp [go_sem,hN]
end Go.Proofs.YtilhejdbiionhaaGreatDoor

set_option maxRecDepth 8000
set_option maxHeartbeats 4000000
namespace Go.Proofs.YtilhejdbiionhaaGreatDoor
open Go Go.Abs Go.Cw
variable {tT:TypeId} {tx:Nat×Nat} {g:Nat}
theorem same_foot (a:Foot):(decide (a.all=a.all)&&qc0 eqB a.reads a.reads&&qc0 eqB a.writes a.writes)=true:=by
 have h:∀ l:List qab,qc0 eqB l l=true:=fun l=>by
  induction l with
  | nil=>rfl
  | cons x l ih=>simp [qc0,eqB,ih]
 simp [h]
theorem same_l {α:Type} {f:α→α→Bool} (hf:∀ x,f x x=true):∀ l,qc0 f l l=true
 | []=>rfl
 | x::l=>by simp [qc0,hf,same_l hf l]
theorem same_eff (e:Eff):sameE e e=true:=by
 simp [sameE,same_l (f:=eqVal) (fun x=>by simp [eqVal]),same_l (f:=eqB) (fun x=>by simp [eqB]),same_l (f:=eqP) (fun x=>by simp [eqP,eqVal])]
theorem c_law20_Covers (p:Proc) (args:List V) (st:List Pr) (h:qaa) (hg:h[g]?=some (tabO tT tx)) (hI:RunIn qa8 p args st) :
  ACalls Tryz.prog 6 [.agg p.c,.slice (args.map V.c),.slice (st.map Pr.c)] h fun r h'=>r=.ret (Bo true)∧h'=h:=by
 refine qav Tryz.func6 Tryz.ntmps6 rfl (by kernel_rfl) rfl fun E hN hh hu hb hb' hua=>?_;have hgl:g<h.length:=(List.getElem?_eq_some_iff.1 hg).1;have hg':∀ l:qaa,(h++l)[g]?=some (tabO tT tx):=fun l=>by rw [List.getElem?_append_left hgl];exact hg
 have hr:=fun H hH=>qc6 (g:=g) (tT:=tT) (tx:=tx) p args st H hH hI;have hs:=fun H hH=>c_pr_Static (g:=g) (tT:=tT) (tx:=tx) p args H hH (runIn_nil hI);have hok:=statS_ok (fmt:=qa8) (p:=p) (args:=args);have hft:=statS_foot (fmt:=qa8) (p:=p) (args:=args);have hcov:=statS_cov (fmt:=qa8) (p:=p) (args:=args) hI;obtain ⟨⟨f,e⟩,hR⟩:∃ R,reconS qa8 p args st=R:=⟨_,rfl⟩
 obtain ⟨⟨f1,e1⟩,hS⟩:∃ R,statS qa8 p args=R:=⟨_,rfl⟩
 rw [hR] at hr;rw [hS] at hs hok hft hcov;unfold reconS at hR;dsimp only at hok hft hcov hs hr;simp -dsimp [go_sem,hN];refine qag (c_law20_few p args st _) ?_;rintro r h' ⟨⟨b,rfl⟩,rfl⟩;simp -dsimp [go_sem,hN];refine cnd (fun h1=>?_) (fun h1=>?_)
 ·
  simp -dsimp [go_sem,hN];refine qag (qbs _ (hg' _)) ?_;rintro r h' ⟨rfl,rfl⟩;simp -dsimp [go_sem,hN];exact ⟨_,.refl _,h,by simp [go_sem],hwk.app0 _,Nat.le_refl _,hu,rfl,rfl⟩
 simp -dsimp [go_sem,hN];refine qag (hs _ (hg' _)) ?_;rintro r h' ⟨rfl,rfl⟩;simp -dsimp [go_sem,hN,Foot.c];refine cnd ?_ ?_<;>intro h2<;>simp at h2
 ·
  simp -dsimp [go_sem,hN];refine qag (qbs _ (hg' _)) ?_;rintro r h' ⟨rfl,rfl⟩;simp -dsimp [go_sem,hN];exact ⟨_,.refl _,h,by simp [go_sem],hwk.app0 _,Nat.le_refl _,hu,rfl,rfl⟩
 obtain ⟨c1,c2,_⟩:=hok h2;obtain ⟨f2,f3⟩:=hft h2;simp -dsimp [go_sem,hN,Foot.c];refine qag (hr _ (hg' _)) ?_;rintro r h' ⟨rfl,rfl⟩;simp -dsimp [go_sem,hN,Foot.c];refine cnd ?_ ?_<;>intro h3<;>simp at h3
 ·
  have hno:qbd st=false:=by
   cases hst:qbd st with
   | false=>rfl
   | true =>
    rw [if_neg (by simp [c1,c2,hst])] at hR;cases hR;exact (h3 rfl).elim
  simp -dsimp [go_sem,hN,Foot.c];refine qac (c_ref06_Valid st) ?_;rw [hno];simp -dsimp [go_sem,hN,Foot.c];refine qah (c_fp_Valid f1) (by simp) ?_;rw [f2,f3];simp -dsimp [go_sem,hN,Foot.c];refine qc3 (fun _=>qbs _ (hg' _)) (by simp) ?_ (fun h=>h);simp -dsimp [go_sem,hN];exact ⟨_,.refl _,h,by simp [go_sem],hwk.app0 _,Nat.le_refl _,hu,rfl,rfl⟩
 ·
  have hst:qbd st=true:=by
   cases hst:qbd st with
   | true=>rfl
   | false =>
    rw [if_pos (by simp [hst])] at hR;cases hR;cases h3
  rw [if_neg (by simp [c1,c2,hst])] at hR;cases hR;obtain ⟨k1,k2⟩:=hcov hst h2;have hfk:=footOk_of hI qdm c1;simp -dsimp [go_sem,hN,Foot.c];refine qac (c_fp_Covers f1 (ftOf (runS qa8 p args st qdm)) (by rw [f2];exact f3) hfk f2 rfl) ?_;rw [show (allL (hasK f1.reads) (ftOf (runS qa8 p args st qdm)).reads&&allL (hasK f1.writes) (ftOf (runS qa8 p args st qdm)).writes)=true from by
   rw [Bool.and_eq_true,allL_iff,allL_iff];exact ⟨fun x hx=>hasK_iff.2 (k1 x hx),fun x hx=>hasK_iff.2 (k2 x hx)⟩]
  simp -dsimp [go_sem,hN,Foot.c];refine qc3 (fun _=>qbs _ (hg' _)) (by simp) ?_ (fun h=>h);simp -dsimp [go_sem,hN];exact ⟨_,.refl _,h,by simp [go_sem],hwk.app0 _,Nat.le_refl _,hu,rfl,rfl⟩
theorem c_law20_Exact (p:Proc) (args:List V) (st:List Pr) (h:qaa) (hg:h[g]?=some (tabO tT tx)) (hI:RunIn qa8 p args st) :
  ACalls Tryz.prog 5 [.agg p.c,.slice (args.map V.c),.slice (st.map Pr.c)] h fun r h'=>r=.ret (Bo true)∧h'=h:=by
 refine qav Tryz.func5 Tryz.ntmps5 rfl (by kernel_rfl) rfl fun E hN hh hu hb hb' hua=>?_;have hgl:g<h.length:=(List.getElem?_eq_some_iff.1 hg).1;have hg':∀ l:qaa,(h++l)[g]?=some (tabO tT tx):=fun l=>by rw [List.getElem?_append_left hgl];exact hg
 have hr:=fun H hH=>qc6 (g:=g) (tT:=tT) (tx:=tx) p args st H hH hI;obtain ⟨X,hX⟩:∃ X,runS qa8 p args st qdm=X:=⟨_,rfl⟩
 have hfree:=fun H hH=>c_interp_Free (g:=g) (tT:=tT) (tx:=tx) p args st H hH hI;rw [hX] at hfree;have hrun:=fun H hH=>c_interp_Run (g:=g) (tT:=tT) (tx:=tx) p args st (ftOf X) H hH hI;have hrec:=run_recon hI;rw [hX] at hrec;rw [hrec] at hrun;have hst3:=run_all (fmt:=qa8) (p:=p) (args:=args) (st:=st) (ft:=qdm) rfl;rw [hX] at hst3;obtain ⟨⟨f,e⟩,hR⟩:∃ R,reconS qa8 p args st=R:=⟨_,rfl⟩
 rw [hR] at hr;unfold reconS at hR;rw [hX] at hR;dsimp only at hr;simp -dsimp [go_sem,hN];refine qag (c_law20_few p args st _) ?_;rintro r h' ⟨⟨b,rfl⟩,rfl⟩;simp -dsimp [go_sem,hN];refine cnd (fun h1=>?_) (fun h1=>?_)
 ·
  simp -dsimp [go_sem,hN];refine qag (qbs _ (hg' _)) ?_;rintro r h' ⟨rfl,rfl⟩;simp -dsimp [go_sem,hN];exact ⟨_,.refl _,h,by simp [go_sem],hwk.app0 _,Nat.le_refl _,hu,rfl,rfl⟩
 simp -dsimp [go_sem,hN];refine qag (hr _ (hg' _)) ?_;rintro r h' ⟨rfl,rfl⟩;simp -dsimp [go_sem,hN,Foot.c];refine cnd ?_ ?_<;>intro h3<;>simp at h3
 ·
  have he:e=1:=by
   by_cases hk:qbx p≠0∨qcq p args≠0∨qbd st=false
   · rw [if_pos hk] at hR;cases hR;rfl
   · rw [if_neg hk] at hR;cases hR;exact (h3 rfl).elim
  subst he;simp -dsimp [go_sem,hN];refine qc3 (fun _=>qbs _ (hg' _)) (by simp) ?_ (fun h=>h);simp -dsimp [go_sem,hN];exact ⟨_,.refl _,h,by simp [go_sem],hwk.app0 _,Nat.le_refl _,hu,rfl,rfl⟩
 by_cases hk:qbx p≠0∨qcq p args≠0∨qbd st=false
 · rw [if_pos hk] at hR;cases hR;cases h3
 rw [if_neg hk] at hR;cases hR;have hc0:qbx p=0:=by
  by_cases h0:qbx p=0
  · exact h0
  · exact (hk (.inl h0)).elim
 have hfk:=footOk_of hI qdm hc0;rw [hX] at hfk;simp -dsimp [go_sem,hN];refine qak 11 mixed (by kernel_rfl) (by kernel_rfl) ?_;simp -dsimp [go_sem,hN];refine tdcall_at (fun _=>at_tab hrun (hg' _)) (by simp) ?_;simp -dsimp [go_sem,hN];refine tdcall_at (fun _=>at_tab hfree (hg' _)) (by simp) ?_;simp -dsimp [go_sem,hN];refine qak 22 mixed (by kernel_rfl) (by kernel_rfl) ?_;simp -dsimp [go_sem,hN];refine qcf (apure_eq (c_fp_Valid ⟨false,X.reads,X.puts⟩) (congrArg Bo hfk)) (by simp) ?_;simp -dsimp [go_sem,hN];refine qcf (apure_eq (c_interp_Same X X) (congrArg Bo (same_eff X))) (by simp) ?_;simp -dsimp [go_sem,hN,hst3];refine qcf (c_fp_Of X) (by simp) ?_;simp -dsimp [go_sem,hN];refine qah (apure_eq (c_ref19_Same (ftOf X) (ftOf X)) (congrArg Bo (same_foot (ftOf X)))) (by simp) ?_;simp -dsimp [go_sem,hN];refine qc3 (fun _=>qbs _ (hg' _)) (by simp) ?_ (fun h=>h);simp -dsimp [go_sem,hN];exact ⟨_,.refl _,h,by simp [go_sem],hwk.app0 _,Nat.le_refl _,hu,rfl,rfl⟩
end Go.Proofs.YtilhejdbiionhaaGreatDoor

set_option maxRecDepth 8000
set_option maxHeartbeats 4000000
namespace Go.Proofs.YtilhejdbiionhaaGreatDoor
open Go Go.Abs Go.Cw
variable {tT:TypeId} {tx:Nat×Nat} {g:Nat}
theorem c_law20_Sound (p:Proc) (args:List V) (st:List Pr) (h:qaa) (hg:h[g]?=some (tabO tT tx)) (hI:RunIn qa8 p args st) :
  ACalls Tryz.prog 4 [.agg p.c,.slice (args.map V.c),.slice (st.map Pr.c)] h fun r h'=>r=.ret (Bo true)∧h'=h:=by
 refine qav Tryz.func4 Tryz.ntmps4 rfl (by kernel_rfl) rfl fun E hN hh hu hb hb' hua=>?_;have hgl:g<h.length:=(List.getElem?_eq_some_iff.1 hg).1;have hg':∀ l:qaa,(h++l)[g]?=some (tabO tT tx):=fun l=>by rw [List.getElem?_append_left hgl];exact hg
 have hs:=fun H hH=>c_pr_Static (g:=g) (tT:=tT) (tx:=tx) p args H hH (runIn_nil hI);have hok:=statS_ok (fmt:=qa8) (p:=p) (args:=args);have hno:=statS_no (fmt:=qa8) (p:=p) (args:=args);have hft:=statS_foot (fmt:=qa8) (p:=p) (args:=args);have hso:=stat_sound (fmt:=qa8) (p:=p) (args:=args) hI;obtain ⟨⟨f1,e1⟩,hS⟩:∃ R,statS qa8 p args=R:=⟨_,rfl⟩
 rw [hS] at hs hok hno hft hso;dsimp only at hs hok hno hft hso;have hrun:=fun H hH=>c_interp_Run (g:=g) (tT:=tT) (tx:=tx) p args st f1 H hH hI;have hcode:=run_code (fmt:=qa8) (p:=p) (args:=args) (st:=st) (ft:=f1);have hmiss:=run_miss (fmt:=qa8) (p:=p) (args:=args) (st:=st) (ft:=f1);have hno9:=run_no (fmt:=qa8) (p:=p) (args:=args) (st:=st) (ft:=f1);have hall:=run_all (fmt:=qa8) (p:=p) (args:=args) (st:=st) (ft:=qdm) rfl;obtain ⟨X,hX⟩:∃ X,runS qa8 p args st f1=X:=⟨_,rfl⟩
 rw [hX] at hso hrun hcode hmiss hno9;simp -dsimp [go_sem,hN];refine qag (c_law20_few p args st _) ?_;rintro r h' ⟨⟨b,rfl⟩,rfl⟩;simp -dsimp [go_sem,hN];refine cnd (fun h1=>?_) (fun h1=>?_)
 ·
  simp -dsimp [go_sem,hN];refine qag (qbs _ (hg' _)) ?_;rintro r h' ⟨rfl,rfl⟩;simp -dsimp [go_sem,hN];exact ⟨_,.refl _,h,by simp [go_sem],hwk.app0 _,Nat.le_refl _,hu,rfl,rfl⟩
 simp -dsimp [go_sem,hN];refine qag (hs _ (hg' _)) ?_;rintro r h' ⟨rfl,rfl⟩;simp -dsimp [go_sem,hN,Foot.c];refine cnd ?_ ?_<;>intro h2<;>simp at h2
 ·
  have hf:=hno h2;subst hf;simp -dsimp [go_sem,hN,Foot.c];refine qc3 (fun _=>qbs _ (hg' _)) (by simp) ?_ (fun h=>h);simp -dsimp [go_sem,hN];exact ⟨_,.refl _,h,by simp [go_sem],hwk.app0 _,Nat.le_refl _,hu,rfl,rfl⟩
 obtain ⟨c1,c2,_⟩:=hok h2;obtain ⟨f2,f3⟩:=hft h2;simp -dsimp [go_sem,hN,Foot.c];refine qag (hrun _ (hg' _)) ?_;rintro r h' ⟨rfl,rfl⟩;simp -dsimp [go_sem,hN,Eff.c];refine qac (c_ref06_Valid st) ?_;simp -dsimp [go_sem,hN,Eff.c];refine cnd ?_ ?_<;>intro h3<;>simp at h3
 ·
  have hc9:=hcode h3;simp -dsimp [go_sem,hN,Eff.c,hc9];refine qc3 (fun _=>qbs _ (hg' _)) (by simp) ?_ (fun h=>h);simp -dsimp [go_sem,hN];exact ⟨_,.refl _,h,by simp [go_sem],hwk.app0 _,Nat.le_refl _,hu,rfl,rfl⟩
 ·
  have h9:=hno9 ((qb9 _ _ _ _).2 ⟨c1,c2,h3,by rw [f2];exact f3⟩);have h33:X.status≠3:=by rw [hso h3 h2];exact hall
  have hm:X.miss=em:=hmiss h33;simp -dsimp [go_sem,hN,Eff.c,h9,h33,hm,em];refine qc3 (fun _=>qbs _ (hg' _)) (by simp) ?_ (fun h=>h);simp -dsimp [go_sem,hN];exact ⟨_,.refl _,h,by simp [go_sem],hwk.app0 _,Nat.le_refl _,hu,rfl,rfl⟩
end Go.Proofs.YtilhejdbiionhaaGreatDoor

set_option maxRecDepth 8000
namespace Go.Proofs.YtilhejdbiionhaaGreatDoor
open Go Go.Abs Go.Cw
section
variable {H:Type} {enc:TypeId×Value→H} {w:World}
theorem bulk_part {d:DataW H} {l:List (DataW H)} (h:d∈l):Rows.uptoBulk d≤Rows.uptoBulkAll l:=by
 induction l with
 | nil=>cases h
 | cons x r ih =>
  simp only [Rows.uptoBulkAll];rcases List.mem_cons.1 h with rfl | e
  · omega
  · have:=ih e;omega
theorem bulk_one (d:DataW H):1≤Rows.uptoBulk d:=by
 cases d with
 | lit l=>cases l<;>simp [Rows.uptoBulk]
 | nil=>simp [Rows.uptoBulk]
 | ptr d=>simp [Rows.uptoBulk]
 | slice elems spare=>simp [Rows.uptoBulk]
 | agg parts=>simp [Rows.uptoBulk]
 | iface t d=>simp [Rows.uptoBulk]
 | map entries=>simp [Rows.uptoBulk]
 | held h=>simp [Rows.uptoBulk]
theorem bulk_len (l:List (DataW H)):l.length≤Rows.uptoBulkAll l:=by
 induction l with
 | nil=>simp [Rows.uptoBulkAll]
 | cons x r ih=>have:=bulk_one x;simp only [Rows.uptoBulkAll,List.length_cons];omega
theorem bulkB:Bulk (H:=H) Rows.uptoBulk where
 str:=fun s=>by simp [Rows.uptoBulk]
 len:=fun e s=>by have:=bulk_len e;simp only [Rows.uptoBulk];omega
 sl:=fun e s x hx=>by have:=bulk_part hx;simp only [Rows.uptoBulk];omega
 agg:=fun ps x hx=>by have:=bulk_part hx;simp only [Rows.uptoBulk];omega
abbrev UB:Nat:=1048576
variable (enc w) in
abbrev RD (n:Nat) (t:TypeId) (Q:List AV→Prop):Prop:=Rd enc Tryz.prog w Rows.uptoBulk UB n t Q
theorem ub_le:UB≤68719476736:=by decide
def rOf {α:Type} (c:α→List AV) (good:α→Prop) (xs:List AV):Prop:=∃ a,xs=c a∧good a
def gStr (s:qab):Prop:=s.size≤UB
def gSl {α:Type} (good:α→Prop) (l:List α):Prop:=l.length≤UB∧∀ a∈l,good a
def qOf {α:Type} (c:α→List AV) (good:α→Prop) (xs:List AV):Prop:=rOf (fun l:List α=>[.slice (l.map c)]) (gSl good) xs
theorem rd_of {n:Nat} {t e:TypeId} (ht:Tryz.prog.underlying t=some (.slice e)) {sz:Nat} (hsz:Tryz.prog.cellsOf e=sz) (h0:0<sz) {α:Type} {c:α→List AV} {good:α→Prop} (hl:∀ a,(c a).length=sz) (he:RD enc w n e (rOf c good)):RD enc w n t (qOf c good):=by
 refine (rd_slice bulkB ub_le ht hsz h0 (by rintro _ ⟨a,rfl,_⟩;exact hl a) he).mono ?_;rintro _ ⟨rows,rfl,hlen,hq⟩;obtain ⟨l,rfl,hg⟩:=rows_list hq;exact ⟨l,rfl,by simpa using hlen,hg⟩
theorem len_of {α:Type} {c:α→List AV} {good:α→Prop}:∀ xs,qOf c good xs→xs.length=1:=by rintro _ ⟨l,rfl,_⟩;rfl
theorem rd_I {n:Nat}:RD enc w n 3 (qInt .i64):=rd_int (by decide) Tryz.underlying3
theorem rd_I64 {n:Nat}:RD enc w n 2 (qInt .i64):=rd_int (by decide) Tryz.underlying2
theorem rd_S {n:Nat}:RD enc w n 9 (qStr UB):=rd_str bulkB ub_le Tryz.underlying9
theorem i64_of {z:Int} (h:IntKind.i64.min≤z∧z≤IntKind.i64.max):i64 z:=⟨h.1,h.2⟩
theorem rd_V:∀ {n:Nat},RD enc w n 54 (rOf V.c qdx)
 | 0=>Rd.zero
 | n+1=>by
  refine (rd_struct (Qs:=[qInt .i64,qInt .i64,qStr UB]) bulkB Tryz.underlying54 ?_).mono ?_
  ·
   simp only [Flds];exact ⟨(by first | rfl | trivial),1,by kernel_rfl,rd_I,len_int,(by first | rfl | trivial),1,by kernel_rfl,rd_I64,len_int,(by first | rfl | trivial),1,by kernel_rfl,rd_S,len_str,by first | kernel_rfl | trivial⟩
  ·
   rintro _ ⟨ps,hp0,rfl⟩;obtain ⟨_,_,rfl,⟨k,rfl,_⟩,hp1⟩:=qa1 hp0;obtain ⟨_,_,rfl,⟨z,rfl,hz⟩,hp2⟩:=qa1 hp1;obtain ⟨_,_,rfl,⟨s,rfl,hs⟩,hp3⟩:=qa1 hp2;obtain rfl:=parts_nil hp3;exact ⟨⟨k,z,s⟩,rfl,i64_of hz,by show s.size≤_;unfold UB at hs;omega⟩
def gP (p:Pr):Prop:=p.key.size≤UB∧qdx p.v
theorem rd_P:∀ {n:Nat},RD enc w n 56 (rOf Pr.c gP)
 | 0=>Rd.zero
 | n+1=>by
  refine (rd_struct (Qs:=[qStr UB,rOf V.c qdx]) bulkB Tryz.underlying56 ?_).mono ?_
  ·
   simp only [Flds];exact ⟨(by first | rfl | trivial),1,by kernel_rfl,rd_S,len_str,(by first | rfl | trivial),3,by kernel_rfl,rd_V,by rintro _ ⟨v,rfl,_⟩;rfl,by first | kernel_rfl | trivial⟩
  ·
   rintro _ ⟨ps,hp0,rfl⟩;obtain ⟨_,_,rfl,⟨k,rfl,hk⟩,hp1⟩:=qa1 hp0;obtain ⟨_,_,rfl,⟨v,rfl,hv⟩,hp2⟩:=qa1 hp1;obtain rfl:=parts_nil hp2;exact ⟨⟨k,v⟩,rfl,hk,hv⟩
theorem rd_Vs {n:Nat}:RD enc w n 26 (qOf V.c qdx):=rd_of Tryz.underlying26 (sz:=3) (by kernel_rfl) (by decide) (fun _=>rfl) rd_V
theorem rd_Ps {n:Nat}:RD enc w n 27 (qOf Pr.c gP):=rd_of Tryz.underlying27 (sz:=4) (by kernel_rfl) (by decide) (fun _=>rfl) rd_P
theorem rd_E:∀ (n:Nat),RD enc w n 59 (rOf Ex.c rngX)
 | 0=>Rd.zero
 | n+1=>by
  have hs:RD enc w n 57 (qOf Ex.c rngX):=rd_of Tryz.underlying57 (sz:=4) (by kernel_rfl) (by decide) (fun e=>by rw [Ex.c_eq];rfl) (rd_E n);refine (rd_struct (Qs:=[qInt .i64,qInt .i64,qStr UB,qOf Ex.c rngX]) bulkB Tryz.underlying59 ?_).mono ?_
  ·
   simp only [Flds];exact ⟨(by first | rfl | trivial),1,by kernel_rfl,rd_I,len_int,(by first | rfl | trivial),1,by kernel_rfl,rd_I64,len_int,(by first | rfl | trivial),1,by kernel_rfl,rd_S,len_str,(by first | rfl | trivial),1,by kernel_rfl,hs,len_of,by first | kernel_rfl | trivial⟩
  ·
   rintro _ ⟨ps,hp0,rfl⟩;obtain ⟨_,_,rfl,⟨k,rfl,_⟩,hp1⟩:=qa1 hp0;obtain ⟨_,_,rfl,⟨z,rfl,hz⟩,hp2⟩:=qa1 hp1;obtain ⟨_,_,rfl,⟨s,rfl,hs⟩,hp3⟩:=qa1 hp2;obtain ⟨_,_,rfl,⟨l,rfl,hl⟩,hp4⟩:=qa1 hp3;obtain rfl:=parts_nil hp4;refine ⟨.mk k z s l,by rw [Ex.c_eq];rfl,(qdh _).2 ⟨⟨i64_of hz,by show s.size≤_;unfold UB at hs;omega⟩,hl.2⟩⟩
theorem rd_T:∀ (n:Nat),RD enc w n 64 (rOf St.c rngS)
 | 0=>Rd.zero
 | n+1=>by
  have hs:RD enc w n 23 (qOf St.c rngS):=rd_of Tryz.underlying23 (sz:=13) (by kernel_rfl) (by decide) (fun e=>by rw [St.c_eq];rfl) (rd_T n);refine (rd_struct (Qs:=[qInt .i64,qStr UB,qInt .i64,rOf Ex.c rngX,rOf Ex.c rngX,qOf St.c rngS,qOf St.c rngS]) bulkB Tryz.underlying64 ?_).mono ?_
  ·
   simp only [Flds];exact ⟨(by first | rfl | trivial),1,by kernel_rfl,rd_I,len_int,(by first | rfl | trivial),1,by kernel_rfl,rd_S,len_str,(by first | rfl | trivial),1,by kernel_rfl,rd_I,len_int,(by first | rfl | trivial),4,by kernel_rfl,rd_E n,by rintro _ ⟨e,rfl,_⟩;rw [Ex.c_eq];rfl,(by first | rfl | trivial),4,by kernel_rfl,rd_E n,by rintro _ ⟨e,rfl,_⟩;rw [Ex.c_eq];rfl,(by first | rfl | trivial),1,by kernel_rfl,hs,len_of,(by first | rfl | trivial),1,by kernel_rfl,hs,len_of,by first | kernel_rfl | trivial⟩
  ·
   rintro _ ⟨ps,hp0,rfl⟩;obtain ⟨_,_,rfl,⟨k,rfl,_⟩,hp1⟩:=qa1 hp0;obtain ⟨_,_,rfl,⟨s,rfl,hs⟩,hp2⟩:=qa1 hp1;obtain ⟨_,_,rfl,⟨m,rfl,_⟩,hp3⟩:=qa1 hp2;obtain ⟨_,_,rfl,⟨a,rfl,ha⟩,hp4⟩:=qa1 hp3;obtain ⟨_,_,rfl,⟨b,rfl,hb⟩,hp5⟩:=qa1 hp4;obtain ⟨_,_,rfl,⟨l,rfl,hl⟩,hp6⟩:=qa1 hp5;obtain ⟨_,_,rfl,⟨l',rfl,hl'⟩,hp7⟩:=qa1 hp6;obtain rfl:=parts_nil hp7;refine ⟨.mk k s m a b l l',?_,(qdy _).2 ⟨ha,hb,hl.2,hl'.2⟩⟩;simp [St.c,St.cl_map]
theorem rd_Ts {n:Nat}:RD enc w n 23 (qOf St.c rngS):=rd_of Tryz.underlying23 (sz:=13) (by kernel_rfl) (by decide) (fun e=>by rw [St.c_eq];rfl) (rd_T n)
theorem rd_M:∀ {n:Nat},RD enc w n 62 (rOf Param.c fun p=>gStr p.name)
 | 0=>Rd.zero
 | n+1=>by
  refine (rd_struct (Qs:=[qStr UB,qInt .i64]) bulkB Tryz.underlying62 ?_).mono ?_
  ·
   simp only [Flds];exact ⟨(by first | rfl | trivial),1,by kernel_rfl,rd_S,len_str,(by first | rfl | trivial),1,by kernel_rfl,rd_I,len_int,by first | kernel_rfl | trivial⟩
  ·
   rintro _ ⟨ps,hp0,rfl⟩;obtain ⟨_,_,rfl,⟨s,rfl,hs⟩,hp1⟩:=qa1 hp0;obtain ⟨_,_,rfl,⟨k,rfl,_⟩,hp2⟩:=qa1 hp1;obtain rfl:=parts_nil hp2;exact ⟨⟨s,k⟩,rfl,hs⟩
theorem rd_Ms {n:Nat}:RD enc w n 22 (qOf Param.c fun p=>gStr p.name):=rd_of Tryz.underlying22 (sz:=2) (by kernel_rfl) (by decide) (fun _=>rfl) rd_M
def gProc (p:Proc):Prop:=gStr p.name∧gSl (fun x:Param=>gStr x.name) p.params∧gSl rngS p.body
theorem rd_Proc:∀ {n:Nat},RD enc w n 25 (rOf Proc.c gProc)
 | 0=>Rd.zero
 | n+1=>by
  refine (rd_struct (Qs:=[qStr UB,qOf Param.c fun p=>gStr p.name,qOf St.c rngS]) bulkB Tryz.underlying25 ?_).mono ?_
  ·
   simp only [Flds];exact ⟨(by first | rfl | trivial),1,by kernel_rfl,rd_S,len_str,(by first | rfl | trivial),1,by kernel_rfl,rd_Ms,len_of,(by first | rfl | trivial),1,by kernel_rfl,rd_Ts,len_of,by first | kernel_rfl | trivial⟩
  ·
   rintro _ ⟨ps,hp0,rfl⟩;obtain ⟨_,_,rfl,⟨s,rfl,hs⟩,hp1⟩:=qa1 hp0;obtain ⟨_,_,rfl,⟨l,rfl,hl⟩,hp2⟩:=qa1 hp1;obtain ⟨_,_,rfl,⟨b,rfl,hb⟩,hp3⟩:=qa1 hp2;obtain rfl:=parts_nil hp3;exact ⟨⟨s,l,b⟩,rfl,hs,hl,hb⟩
structure gEff (e:Eff):Prop where
 out:gSl qdx e.out
 reads:gSl gStr e.reads
 puts:gSl gStr e.puts
 writes:gSl gP e.writes
 miss:gStr e.miss
end
end Go.Proofs.YtilhejdbiionhaaGreatDoor

set_option maxRecDepth 8000
namespace Go.Proofs.YtilhejdbiionhaaGreatDoor
open Go Go.Abs Go.Cw Go.ChangeShapes Go.WideShapes Go.ChangeAt Go.RowKit
theorem laidOut:laidOutB Tryz.prog=true:=by kernel_rfl
theorem ownK:ownKnob Tryz.prog.godebug=none:=by kernel_rfl
abbrev laidL:List (String×DataW Unit):=[("math/bits.deBruijn32tab",Rows.laid_math_bits_deBruijn32tab),("math/bits.deBruijn64tab",Rows.laid_math_bits_deBruijn64tab),("internal/strconv.uint64pow10",Rows.laid_internal_strconv_uint64pow10)]
abbrev gTab:Nat:=0
theorem table {W:World} (h:laidMetH Tryz.prog laidL W):Lib.TabIs Tryz.prog W "internal/strconv.uint64pow10" .u64 Lib.pow10Tab :=
 Lib.tabIs_of_head (rest:=[]) (g:=gTab) (n:=20) (by kernel_rfl) (by kernel_rfl) Tryz.underlying300 Tryz.underlying202 (by kernel_rfl) (by kernel_rfl) (laidMet.tail (laidMet.tail (show laidMet Tryz.prog laidL W from h)))
theorem table_heap {W:World} (h:laidMetH Tryz.prog laidL W):∃ T x,W.heap[gTab]?=some (.cells tabV T x):=by
 have h1:=table h;unfold Lib.TabIs World.var? at h1
 rw [show Tryz.prog.globalNamed "internal/strconv.uint64pow10" = some gTab by kernel_rfl] at h1
 simp only [Option.bind_some] at h1;split at h1
 ·
  rename_i cs T x hx;cases h1;exact ⟨T,x,hx⟩
 · cases h1
theorem tab_u64:∀ (j:Nat) (v:Value),tabV[j]?=some v→∃ n,v=.int .u64 n:=by
 intro j v hv;unfold tabV at hv;have:(Lib.pow10Tab.map fun z=>Value.int .u64 z)[j]?=some v:=by simpa using hv
 rw [List.getElem?_map,Option.map_eq_some_iff] at this;obtain ⟨z,_,rfl⟩:=this;exact ⟨z,rfl⟩
def putTab (zs:List Value):Obj→Obj
 | .cells _ t fr=>.cells zs.toArray t fr
 | o=>o
def tabVals (d:DataW Unit):List Value:=match d with
 | .agg ps=>ps.map fun | .lit (.int k n)=>.int k n | _=>undef
 | _=>[]
noncomputable def laidWorld (os:Os):World :=
 { World.holding Tryz.prog os ⟨#[],#[],[]⟩ with heap:=(((World.holding Tryz.prog os ⟨#[],#[],[]⟩).heap.modify gTab (putTab (tabVals Rows.laid_internal_strconv_uint64pow10))).modify 2 (putTab (tabVals Rows.laid_math_bits_deBruijn32tab))).modify 3 (putTab (tabVals Rows.laid_math_bits_deBruijn64tab)) }
section
variable {H:Type} {enc:TypeId×Value→H} {W:World} {base:Nat}
theorem okWide_struct {t:TypeId} {fs:Array Field} (ht:Tryz.prog.underlying t=some (.struct fs)) {v:Value} (h:Value.okWide Tryz.prog W .any base t v):∃ cs,v=.agg cs:=by
 unfold Value.okWide at h;rw [ht] at h;obtain ⟨cs,rfl,_⟩:=h;exact ⟨cs,rfl⟩
theorem okWide_slice {t e:TypeId} (ht:Tryz.prog.underlying t=some (.slice e)) {v:Value} (h:Value.okWide Tryz.prog W .any base t v):v.cells = #[v]:=by
 unfold Value.okWide at h;rw [ht] at h;simp only at h;unfold Cell.okWide at h;rw [ht] at h;cases v<;>first | rfl | skip
 unfold Cell.ok at h;rw [ht] at h;exact h.elim
theorem arg_struct {t:TypeId} {fs:Array Field} (ht:Tryz.prog.underlying t=some (.struct fs)) {v:Value} {d:DataW H} {ps:List MemPlace} (hv:Value.okWide Tryz.prog W .any base t v) (h:DataW.Trod enc Tryz.prog W 0 (fun _=>true) true t v d ps)
  {α:Type} {c:α→List AV} {good:α→Prop} (hr:∀ n,RD enc W n t (rOf c good)) (hb:Rows.uptoBulk d≤UB):∃ a,Rel (ctxR W gTab) (.agg (c a)) v∧good a:=by
 obtain ⟨cs,rfl⟩:=okWide_struct ht hv;obtain ⟨fuel,hf⟩:=h;obtain ⟨_,hd,a,rfl,hg⟩:=hr fuel fuel _ _ _ (Nat.le_refl _) hf hb;exact ⟨a,rel_agg hd,hg⟩
theorem arg_slice {t e:TypeId} (ht:Tryz.prog.underlying t=some (.slice e)) {v:Value} {d:DataW H} {ps:List MemPlace} (hv:Value.okWide Tryz.prog W .any base t v) (h:DataW.Trod enc Tryz.prog W 0 (fun _=>true) true t v d ps)
  {α:Type} {c:α→List AV} {good:α→Prop} (hr:∀ n,RD enc W n t (qOf c good)) (hb:Rows.uptoBulk d≤UB):∃ l:List α,Rel (ctxR W gTab) (.slice (l.map c)) v∧gSl good l:=by
 obtain ⟨fuel,hf⟩:=h;rw [okWide_slice ht hv] at hf;obtain ⟨_,hd,l,rfl,hg⟩:=hr fuel fuel _ _ _ (Nat.le_refl _) hf hb;exact ⟨l,rel_one hd,hg⟩
end
theorem pLaid:laidOutB Tryz.pinned.checked.prog=true:=by kernel_rfl
theorem pMaps:mapsRowed Tryz.pinned.checked.prog=true:=by kernel_rfl
theorem pHeard:Tryz.pinned.checked.prog.stopsHeard=true:=by kernel_rfl
theorem pEnter:Tryz.pinned.checked.prog.mayEnter=true:=by kernel_rfl
end Go.Proofs.YtilhejdbiionhaaGreatDoor

set_option maxRecDepth 8000
namespace Go.Proofs.YtilhejdbiionhaaGreatDoor
open Go Go.Abs Go.Cw
section
variable {H:Type} {enc:TypeId×Value→H} {w:World}
theorem runIn_of {p:Proc} {args:List V} {st:List Pr} (hp:gProc p) (ha:gSl qdx args) (hs:gSl gP st):RunIn qa8 p args st:=⟨qcb,hp.2.2.2,ha.2,fun q hq=>(hs.2 q hq).2⟩
end
end Go.Proofs.YtilhejdbiionhaaGreatDoor
