/- Part 35 of a proof: W25, W26, W27, W14 -/
import Derived.Shelf.Small.Strs
import Derived.Shelf.Strconv.Itoa4
import Derived.Lib.ItoaLen
import Derived.Test.YtilhejdbiionhaaGreatDoorV13
import Derived.Test.YtilhejdbiionhaaGreatDoorV14
import Derived.Test.YtilhejdbiionhaaGreatDoorV16
import Derived.Test.YtilhejdbiionhaaGreatDoorV17
import Derived.Test.YtilhejdbiionhaaGreatDoorV22
import Derived.Test.YtilhejdbiionhaaGreatDoorV23
import Derived.Test.YtilhejdbiionhaaGreatDoorV24
import Derived.Test.YtilhejdbiionhaaGreatDoorV26
import Derived.Test.YtilhejdbiionhaaGreatDoorV30
import Derived.Test.YtilhejdbiionhaaGreatDoorV31
import Derived.Test.YtilhejdbiionhaaGreatDoorV33
import Derived.Test.YtilhejdbiionhaaGreatDoorV34
set_option linter.all false

set_option maxRecDepth 4000
set_option maxHeartbeats 4000000
namespace Go.Proofs.YtilhejdbiionhaaGreatDoor
open Go Go.Abs Go.Cw
attribute [local go_sem] mC
variable {C:Cfg} {tT:TypeId} {tx:Nat×Nat} {g m v o io ir ip:Nat}
def BlkSpec (C:Cfg) (tT:TypeId) (tx:Nat×Nat) (g m v o io ir ip:Nat) (l:List St):Prop :=
 ∀ {K:MQ→qab} {n0:Nat} (_:MHs C tT tx g m v o io ir ip K n0) (s:MS),Inv 0 0 s→ACalls Tryz.prog 45 [.ptr m 0,.slice (l.map St.c)] (K s.q) fun r h'=>r=endU (blkI C l s).1∧h'=K (blkI C l s).2.q
theorem c_machine_loop (hF:C.fmt=qbo) (hC:rngC C) {K:MQ→qab} {n0:Nat} (Y:MHs C tT tx g m v o io ir ip K n0) (t:St) (hop:t.op=6) (hG:goS t) (s:MS) (hI:Inv 8192 1 s) (hblk:BlkSpec C tT tx g m v o io ir ip t.body) :
  ACalls Tryz.prog 119 [.ptr m 0,.agg t.x] (K s.q) fun r h'=>r=endU (stI C t s).1∧h'=K (stI C t s).2.q:=by
 refine qaq Tryz.func119 Tryz.ntmps119 rfl (by kernel_rfl) rfl fun E hN hh hu hb hb' hua=>?_;obtain ⟨op,name,mx,a,b,body,els⟩:=t;have hG':=(goS_iff _).1 hG;simp only [St.op,St.a,St.b,St.body,St.els] at hG' hop;obtain ⟨hA,hB,hbody,hels⟩:=hG';subst hop;have hra:=(hA (by omega))
 have hrb:=(hB (by omega))
 have hmn:=Y.hm;rw [stI];simp only [show ¬ ((6:Int)=1∨(6:Int)=2) by omega,show ¬ (6:Int)=3 by omega,show ¬ (6:Int)=4 by omega,show ¬ (6:Int)=5 by omega,if_false,if_true];have hst:=hI.st;have hrd:=hI.rd;simp -dsimp [go_sem,hN,Y.len,Y.loc];refine qaj (qbp hF hC (Y.ext [_] (by simp [hUnder,AObj.under,AV.under,qam])) s a hra.1 hI.rng hI.ar (by have:=hra.2;omega)) ?_;rintro r h' ⟨rfl,rfl⟩;have h1:=hI.eval hC (r:=4097) hra;rcases hE:evE C a s with ⟨z | u,s1⟩
 ·
  simp -dsimp [go_sem,hN,endV,endU];exact ⟨_,.refl _,K s1.q,by simp [go_sem],by first | exact hwk.refl _ | exact hwk.app0 _ | simp [hwk.refl],by simp [Y.len],Y.und' _,by first | rfl | simp,by first | rfl | simp [MS.q]⟩
 rw [hE] at h1;simp only at h1;dsimp only;have hrd1:=h1.1.rd;have hst1:=h1.1.st;simp -dsimp [go_sem,hN,endV,Y.len,Y.loc,Y.loc1];refine qaj (qbp hF hC (Y.ext [_,_] (by simp [hUnder,AObj.under,AV.under,qam])) s1 b hrb.1 h1.1.rng h1.1.ar (by have:=hrb.2;omega)) ?_;rintro r h' ⟨rfl,rfl⟩;have h2:=h1.1.eval hC (r:=2) hrb;rcases hE2:evE C b s1 with ⟨z | w,s2⟩
 ·
  simp -dsimp [go_sem,hN,endV,endU];exact ⟨_,.refl _,K s2.q,by simp [go_sem],by first | exact hwk.refl _ | exact hwk.app0 _ | simp [hwk.refl],by simp [Y.len],Y.und' _,by first | rfl | simp,by first | rfl | simp [MS.q]⟩
 rw [hE2] at h2;simp only at h2;dsimp only;simp -dsimp [go_sem,hN,endV,Y.len,Y.loc,Y.loc1,Y.loc2];refine qaj (qdk (decide (u.k=1)&&decide (w.k=1)) _) ?_;rintro r h' ⟨⟨hm,rfl⟩ | ⟨hm,rfl⟩,rfl⟩<;>simp at hm
 rotate_left
 ·
  simp -dsimp [go_sem,hN,endU];simp only [show ¬ (u.k=1∧w.k=1) from fun k=>hm k.1 k.2,if_false];exact ⟨_,.refl _,K s2.q,by simp [go_sem],by first | exact hwk.refl _ | exact hwk.app0 _ | simp [hwk.refl],by simp [Y.len],Y.und' _,by first | rfl | simp,by first | rfl | simp [MS.q]⟩
 simp only [hm.1,hm.2,and_self,if_true];simp -dsimp [go_sem,hN,Y.len,Y.loc,Y.loc1,Y.loc2]
 repeat refine ⟨by grind,?_⟩
 refine cnd ?_ ?_<;>intro h0<;>simp at h0
 ·
  have h0':tooMany u.n w.n mx:=h0;simp -dsimp [go_sem,hN];refine qaj (qa5 1005 _) ?_;rintro r h' ⟨rfl,rfl⟩;simp -dsimp [go_sem,hN,endU,h0'];exact ⟨_,.refl _,K s2.q,by simp [go_sem],by first | exact hwk.refl _ | exact hwk.app0 _ | simp [hwk.refl],by simp [Y.len],Y.und' _,by first | rfl | simp,by first | rfl | simp [MS.q]⟩
 have h0':¬ tooMany u.n w.n mx:=fun k=>by have h3:=h0 k.1;have:=k.2;simp only [St.max] at h3;omega
 simp only [h0',if_false];simp -dsimp [go_sem,hN,Y.len,Y.loc,Y.loc1,Y.loc2];obtain ⟨L0,hL0⟩:∃ L0,L0=loopS (fun y=>blkI C body y) name w.n 16386 u.n s2:=⟨_,rfl⟩
 rw [← hL0];refine awp_loopM (α:=Nat×Int×MS) (fun x=>Cw.Inv 0 0 x.2.2∧i64 x.2.1∧(16386:Int)≤x.2.2.steps+x.1∧L0=loopS (fun y=>blkI C body y) name w.n x.1 x.2.1 x.2.2)
  (fun x=>⟨[(0,.ptr m 0),(3,.ptr n0 0),(5,.ptr (n0+2) 0),(6,I x.2.1)],K x.2.2.q++[.cells (St.mk 6 name mx a b body els).x,.cells [I 1,I u.n,S u.s],.cells [I 1,I w.n,S w.s]]⟩)
  (fun x=>x.1) (16386,u.n,s2) ⟨h2.1.mono (by omega) (by omega),(h1.2 _ rfl).1,by have:=h2.1.pt;simp only;omega,hL0⟩ (Wk.mk (by simp [hh,Y.len]) (by simp [go_sem]) (by simp [Y.und,Y.undA,Y.len,go_sem]) (by simp [go_sem,Y.len]<;>omega)) ?_
 rintro ⟨f,i,s3⟩ ⟨hI3,hi,hf,hL⟩;dsimp only at hI3 hi hf hL;have hst3:=hI3.st;obtain ⟨f,rfl⟩:∃ f',f=f'+1:=⟨f - 1,by omega⟩
 rw [loopS] at hL;simp -dsimp [go_sem,hN,Y.len,Y.loc,Y.loc1,Y.loc2];refine cnd ?_ ?_<;>intro hc<;>simp at hc
 rotate_left
 ·
  rw [if_neg (by omega)] at hL;rw [hL];simp -dsimp [go_sem,hN,endU];exact ⟨_,.refl _,K s3.q,by simp [go_sem],by first | exact hwk.refl _ | exact hwk.app0 _ | simp [hwk.refl],by simp [Y.len],Y.und' _,by first | rfl | simp,by first | rfl | simp [MS.q]⟩
 rw [if_pos hc] at hL;simp -dsimp [go_sem,hN];refine qaj (c_machine_tick (Y.ext [_,_,_] (by simp [hUnder,AObj.under,AV.under,qam])) s3 (by omega)) ?_;rintro r h' ⟨rfl,rfl⟩;rcases hT:tickS s3 with ⟨z | ⟨⟩,s4⟩
 ·
  rw [hT] at hL;simp only at hL;rw [hL];simp -dsimp [go_sem,hN,endU];exact ⟨_,.refl _,K s4.q,by simp [go_sem],by first | exact hwk.refl _ | exact hwk.app0 _ | simp [hwk.refl],by simp [Y.len],Y.und' _,by first | rfl | simp,by first | rfl | simp [MS.q]⟩
 rw [hT] at hL;simp only at hL;have hI4:=(hI3.tick hT).vars (rng_vI hi) name;simp -dsimp [go_sem,hN,endU];refine qak 8 mixed (by kernel_rfl) (by kernel_rfl) ?_;simp -dsimp [go_sem,hN,Y.len,Y.loc,Y.loc1,Y.loc2,Y.lm',Y.lv',Y.sv',kvSet_vI];refine qaj (hblk (Y.ext [_,_,_] (by simp [hUnder,AObj.under,AV.under,qam])) { s4 with vars:=qbz s4.vars name (vI i) } (hI4.mono (by omega) (by omega))) ?_;rintro r h' ⟨rfl,rfl⟩;rcases hB5:blkI C body { s4 with vars:=qbz s4.vars name (vI i) } with ⟨z | ⟨⟩,s5⟩
 ·
  rw [hB5] at hL;simp only at hL;rw [hL];simp -dsimp [go_sem,hN,endU,hB5,St.body];exact ⟨_,.refl _,K s5.q,by simp [go_sem],by first | exact hwk.refl _ | exact hwk.app0 _ | simp [hwk.refl],by simp [Y.len],Y.und' _,by first | rfl | simp,by first | rfl | simp [MS.q]⟩
 rw [hB5] at hL;simp only at hL;simp -dsimp [go_sem,hN,endU,hB5,St.body];have hb1:=blkI_steps (C:=C) body { s4 with vars:=qbz s4.vars name (vI i) };have hb2:=tick_steps s3;rw [hB5] at hb1;rw [hT] at hb2;simp only at hb1 hb2;exact ⟨f,W64 (i+1),s5,⟨blkI_ok hC body _ _ _ hbody (hI4.mono (by omega) (by omega)) hB5,i64_w _,by omega,hL⟩,by omega,(Wk.mk (by simp [hh,Y.len]) (by simp [go_sem]) (by simp [Y.und,Y.undA,Y.len,go_sem]) (by simp [go_sem,Y.len]<;>omega))⟩
end Go.Proofs.YtilhejdbiionhaaGreatDoor

set_option maxRecDepth 4000
set_option maxHeartbeats 1000000
namespace Go.Proofs.YtilhejdbiionhaaGreatDoor
open Go Go.Abs Go.Cw
attribute [local go_sem] mC
variable {C:Cfg} {tT:TypeId} {tx:Nat×Nat} {g m v o io ir ip:Nat}
mutual
theorem qd6 (hF:C.fmt=qbo) (hC:rngC C) (l:List St) (hG:∀ x∈l,goS x) {K:MQ→qab} {n0:Nat} (Y:MHs C tT tx g m v o io ir ip K n0) (s:MS) (hI:Cw.Inv 0 0 s) :
  ACalls Tryz.prog 45 [.ptr m 0,.slice (l.map St.c)] (K s.q) fun r h'=>r=endU (blkI C l s).1∧h'=K (blkI C l s).2.q:=by
 refine qaq Tryz.func45 Tryz.ntmps45 rfl (by kernel_rfl) rfl fun E hN hh hu hb hb' hua=>?_;simp [go_sem] at hb;have hmn:=Y.hm;obtain ⟨L0,hL0⟩:∃ L0,L0=blkI C l s:=⟨_,rfl⟩
 rw [← hL0];simp -dsimp [go_sem,hN];refine qat (α:=MS) l.length (fun n s'=>Cw.Inv 0 0 s'∧L0=blkI C (l.drop n) s') (fun n s'=>⟨[(0,.ptr m 0),(6,.slice (l.map St.c)),(7,I l.length),(8,I n)],K s'.q⟩) s ⟨hI,by simpa using hL0⟩ (Wk.mk (by simp [hh,Y.len]) (by simp [go_sem]) (by simp [Y.und,Y.undA,Y.len,go_sem]) (by simp [go_sem,Y.len]<;>omega)) ?_;rintro n s1 hn ⟨hI1,hL⟩;have hw:=qa3 hn hb.1;have hst1:=hI1.st;simp -dsimp [go_sem,hN];refine cnd ?_ ?_<;>intro hc<;>simp at hc
 rotate_left
 ·
  rw [List.drop_eq_nil_of_le (by omega),blkI] at hL;rw [hL];simp -dsimp [go_sem,hN,endU];exact ⟨_,.refl _,K s1.q,by simp [go_sem],by first | exact hwk.refl _ | exact hwk.app0 _ | simp [hwk.refl],by simp [Y.len],Y.und' _,by first | rfl | simp,by first | rfl | simp [MS.q]⟩
 rw [qae hc,blkI] at hL;have hlt:SizeOf.sizeOf l[n]<SizeOf.sizeOf l:=List.sizeOf_lt_of_mem (List.getElem_mem hc);simp -dsimp [go_sem,hN,hc,Y.len,St.c_eq];refine qaj (c_machine_tick (Y.ext [_] (by simp [hUnder,AObj.under,AV.under,qam])) s1 (by omega)) ?_;rintro r h' ⟨rfl,rfl⟩;rcases hT:tickS s1 with ⟨z | ⟨⟩,s2⟩
 ·
  rw [hT] at hL;simp only at hL;rw [hL];simp -dsimp [go_sem,hN,endU];exact ⟨_,.refl _,K s2.q,by simp [go_sem],by first | exact hwk.refl _ | exact hwk.app0 _ | simp [hwk.refl],by simp [Y.len],Y.und' _,by first | rfl | simp,by first | rfl | simp [MS.q]⟩
 rw [hT] at hL;simp only at hL;have hI2:=hI1.tick hT;simp -dsimp [go_sem,hN,endU,Y.len,Y.loc];refine qaj (c_machine_stmt hF hC l[n] (hG _ (List.getElem_mem hc)) (Y.ext [_] (by simp [hUnder,AObj.under,AV.under,qam])) s2 hI2) ?_;rintro r h' ⟨rfl,rfl⟩;rcases hS:stI C l[n] s2 with ⟨z | ⟨⟩,s3⟩
 ·
  rw [hS] at hL;simp only at hL;rw [hL];simp -dsimp [go_sem,hN,endU];exact ⟨_,.refl _,K s3.q,by simp [go_sem],by first | exact hwk.refl _ | exact hwk.app0 _ | simp [hwk.refl],by simp [Y.len],Y.und' _,by first | rfl | simp,by first | rfl | simp [MS.q]⟩
 rw [hS] at hL;simp only at hL;simp -dsimp [go_sem,hN,endU,hw];exact ⟨hc,s3,⟨stI_ok hC _ _ _ _ (hG _ (List.getElem_mem hc)) hI2 hS,hL⟩,(Wk.mk (by simp [hh,Y.len]) (by simp [go_sem]) (by simp [Y.und,Y.undA,Y.len,go_sem]) (by simp [go_sem,Y.len]<;>omega))⟩
termination_by (SizeOf.sizeOf l,0)
theorem c_machine_stmt (hF:C.fmt=qbo) (hC:rngC C) (t:St) (hG:goS t) {K:MQ→qab} {n0:Nat} (Y:MHs C tT tx g m v o io ir ip K n0) (s:MS) (hI:Cw.Inv 8192 1 s) :
  ACalls Tryz.prog 74 [.ptr m 0,.agg t.x] (K s.q) fun r h'=>r=endU (stI C t s).1∧h'=K (stI C t s).2.q:=by
 refine qaq Tryz.func74 Tryz.ntmps74 rfl (by kernel_rfl) rfl fun E hN hh hu hb hb' hua=>?_;simp [go_sem] at hb;have hG':=(goS_iff _).1 hG;have hmn:=Y.hm;obtain ⟨hA,hB,hbody,hels⟩:=hG';have hst:=hI.st;have hrd:=hI.rd;have hpt:=hI.pt;have hlB:SizeOf.sizeOf t.body<SizeOf.sizeOf t:=by cases t;simp [St.body];omega
 have hlE:SizeOf.sizeOf t.els<SizeOf.sizeOf t:=by cases t;simp [St.els];omega
 rw [stI_eq];simp -dsimp [go_sem,hN,Y.len,Y.loc];by_cases h12:t.op=1∨t.op=2
 ·
  rw [if_pos h12];have ha:=hA (by omega);have h1:=hI.eval hC (r:=4097) ha;have hc:=qbp hF hC (Y.ext [.cells t.x] (by simp [hUnder,AObj.under,AV.under,qam])) s t.a ha.1 hI.rng hI.ar (by have:=ha.2;omega);obtain ⟨x0,hx0⟩:∃ x0,x0=evE C t.a s:=⟨_,rfl⟩
  rw [← hx0] at hc ⊢;refine cnd ?_ ?_<;>intro h<;>simp at h
  all_goals
   rcases x0 with ⟨z | u,s1⟩
   ·
    try simp -dsimp [go_sem,hN]
    refine cnd (fun _=>?_) (fun k=>by simp at k;omega)
    try simp -dsimp [go_sem,hN]
    refine qea 10 9 [0,1,2,3,4,5] mixed (by kernel_rfl) ?_;simp -dsimp [go_sem,hN,Y.len,Y.loc,Y.lm',Y.lv'];refine tkcall_pan (h2:=K s1.q++[.cells t.x]) (hc.mono (by rintro _ _ ⟨rfl,rfl⟩;exact ⟨rfl,rfl⟩)) ?_;simp -dsimp [go_sem,hN,endU];exact ⟨_,.refl _,K s1.q,by simp [go_sem],by first | exact hwk.refl _ | exact hwk.app0 _ | simp [hwk.refl],by simp [Y.len],Y.und' _,by first | rfl | simp,by first | rfl | simp [MS.q]⟩
   ·
    try simp -dsimp [go_sem,hN]
    refine cnd (fun _=>?_) (fun k=>by simp at k;omega)
    try simp -dsimp [go_sem,hN]
    refine qea 10 9 [0,1,2,3,4,5] mixed (by kernel_rfl) ?_;simp -dsimp [go_sem,hN,Y.len,Y.loc,Y.lm',Y.lv'];refine qdr (h2:=K s1.q++[.cells t.x]) (r:=.agg u.c) (hc.mono (by rintro _ _ ⟨rfl,rfl⟩;exact ⟨rfl,rfl⟩)) ?_;simp -dsimp [go_sem,hN,endU,Y.len,Y.loc,Y.lm',Y.lv',Y.sv'];exact ⟨_,.refl _,K (MS.q { s1 with vars:=qbz s1.vars t.name u }),by simp [go_sem],by first | exact hwk.refl _ | exact hwk.app0 _ | simp [hwk.refl],by simp [Y.len],Y.und' _,by first | rfl | simp,by first | rfl | simp [MS.q]⟩
 rw [if_neg h12];have h12':¬ t.op=1∧¬ t.op=2:=by omega
 refine cnd (fun k=>by simp [h12'] at k) (fun _=>?_)
 try simp -dsimp [go_sem,hN,h12'.1,h12'.2]
 refine cnd ?_ ?_<;>intro h3<;>simp at h3
 ·
  simp only [h3,if_true];have ha:=hA (by omega);have hb2:=hB (by omega);have h1:=hI.eval hC (r:=4097) ha;simp -dsimp [go_sem,hN,Y.len,Y.loc];refine qaj (qbp hF hC (Y.ext [_] (by simp [hUnder,AObj.under,AV.under,qam])) s t.a ha.1 hI.rng hI.ar (by have:=ha.2;omega)) ?_;rintro r h' ⟨rfl,rfl⟩;rcases hE:evE C t.a s with ⟨z | u,s1⟩
  ·
   simp -dsimp [go_sem,hN,endV,endU];exact ⟨_,.refl _,K s1.q,by simp [go_sem],by first | exact hwk.refl _ | exact hwk.app0 _ | simp [hwk.refl],by simp [Y.len],Y.und' _,by first | rfl | simp,by first | rfl | simp [MS.q]⟩
  rw [hE] at h1;simp only at h1;dsimp only;have hrd1:=h1.1.rd;have hst1:=h1.1.st;simp -dsimp [go_sem,hN,endV,Y.len,Y.loc,Y.loc1];refine qaj (qbp hF hC (Y.ext [_,_] (by simp [hUnder,AObj.under,AV.under,qam])) s1 t.b hb2.1 h1.1.rng h1.1.ar (by have:=hb2.2;omega)) ?_;rintro r h' ⟨rfl,rfl⟩;have h2:=h1.1.eval hC (r:=2) hb2;rcases hE2:evE C t.b s1 with ⟨z | w,s2⟩
  ·
   simp -dsimp [go_sem,hN,endV,endU];exact ⟨_,.refl _,K s2.q,by simp [go_sem],by first | exact hwk.refl _ | exact hwk.app0 _ | simp [hwk.refl],by simp [Y.len],Y.und' _,by first | rfl | simp,by first | rfl | simp [MS.q]⟩
  rw [hE2] at h2;simp only at h2;dsimp only;simp -dsimp [go_sem,hN,endV,Y.len,Y.loc,Y.loc1,Y.loc2]
  repeat refine ⟨by grind,?_⟩
  have hpt2:=h2.1.pt;have hst2:=h2.1.st;refine qaj (qdk (decide (u.k=2)&&(decide (w.k=1)||decide (w.k=2))) _) ?_;rintro r h' ⟨⟨hm,rfl⟩ | ⟨hm,rfl⟩,rfl⟩<;>simp at hm
  rotate_left
  ·
   simp -dsimp [go_sem,hN,endU];rw [if_neg (by rintro ⟨k1,k2⟩;have:=hm k1;omega)];exact ⟨_,.refl _,K s2.q,by simp [go_sem],by first | exact hwk.refl _ | exact hwk.app0 _ | simp [hwk.refl],by simp [Y.len],Y.und' _,by first | rfl | simp,by first | rfl | simp [MS.q]⟩
  rw [if_pos hm];simp -dsimp [go_sem,hN,Y.len,Y.loc,Y.loc1,Y.loc2];refine qaj (c_machine_store (Y.ext [_,_,_] (by simp [hUnder,AObj.under,AV.under,qam])) s2 u.s w h2.1.ap (by omega)) ?_;rintro r h' ⟨rfl,rfl⟩;rcases qde C u.s w s2 with ⟨z | ⟨⟩,s3⟩<;>simp -dsimp [go_sem,hN,endU]<;>exact ⟨_,.refl _,K s3.q,by simp [go_sem],by first | exact hwk.refl _ | exact hwk.app0 _ | simp [hwk.refl],by simp [Y.len],Y.und' _,by first | rfl | simp,by first | rfl | simp [MS.q]⟩
 simp only [h3,if_false];simp -dsimp [go_sem,hN,Y.len,Y.loc];refine cnd ?_ ?_<;>intro h4<;>simp at h4
 ·
  simp only [h4,if_true];have ha:=hA (by omega);have h1:=hI.eval hC (r:=4097) ha;simp -dsimp [go_sem,hN,Y.len,Y.loc];refine qaj (qbp hF hC (Y.ext [_] (by simp [hUnder,AObj.under,AV.under,qam])) s t.a ha.1 hI.rng hI.ar (by have:=ha.2;omega)) ?_;rintro r h' ⟨rfl,rfl⟩;rcases hE:evE C t.a s with ⟨z | u,s1⟩
  ·
   simp -dsimp [go_sem,hN,endV,endU];exact ⟨_,.refl _,K s1.q,by simp [go_sem],by first | exact hwk.refl _ | exact hwk.app0 _ | simp [hwk.refl],by simp [Y.len],Y.und' _,by first | rfl | simp,by first | rfl | simp [MS.q]⟩
  rw [hE] at h1;simp only at h1;dsimp only;have hpt1:=h1.1.pt;have hst1:=h1.1.st;simp -dsimp [go_sem,hN,endV,Y.len,Y.loc,Y.loc1];refine qaj (qdk (decide (u.k=2)) _) ?_;rintro r h' ⟨⟨hm,rfl⟩ | ⟨hm,rfl⟩,rfl⟩<;>simp at hm
  rotate_left
  ·
   simp -dsimp [go_sem,hN,endU,hm];exact ⟨_,.refl _,K s1.q,by simp [go_sem],by first | exact hwk.refl _ | exact hwk.app0 _ | simp [hwk.refl],by simp [Y.len],Y.und' _,by first | rfl | simp,by first | rfl | simp [MS.q]⟩
  simp only [hm,if_true];simp -dsimp [go_sem,hN,Y.len,Y.loc,Y.loc1];refine qaj (c_machine_store (Y.ext [_,_] (by simp [hUnder,AObj.under,AV.under,qam])) s1 u.s V.nil h1.1.ap (by omega)) ?_;rintro r h' ⟨rfl,rfl⟩;rcases qde C u.s V.nil s1 with ⟨z | ⟨⟩,s2⟩<;>simp -dsimp [go_sem,hN,endU]<;>exact ⟨_,.refl _,K s2.q,by simp [go_sem],by first | exact hwk.refl _ | exact hwk.app0 _ | simp [hwk.refl],by simp [Y.len],Y.und' _,by first | rfl | simp,by first | rfl | simp [MS.q]⟩
 simp only [h4,if_false];simp -dsimp [go_sem,hN,Y.len,Y.loc];refine cnd ?_ ?_<;>intro h5<;>simp at h5
 ·
  simp only [h5,if_true];have ha:=hA (by omega);have h1:=hI.eval hC (r:=4097) ha;simp -dsimp [go_sem,hN,Y.len,Y.loc];refine qaj (qbp hF hC (Y.ext [_] (by simp [hUnder,AObj.under,AV.under,qam])) s t.a ha.1 hI.rng hI.ar (by have:=ha.2;omega)) ?_;rintro r h' ⟨rfl,rfl⟩;rcases hE:evE C t.a s with ⟨z | u,s1⟩
  ·
   simp -dsimp [go_sem,hN,endV,endU];exact ⟨_,.refl _,K s1.q,by simp [go_sem],by first | exact hwk.refl _ | exact hwk.app0 _ | simp [hwk.refl],by simp [Y.len],Y.und' _,by first | rfl | simp,by first | rfl | simp [MS.q]⟩
  rw [hE] at h1;simp only at h1;dsimp only;simp -dsimp [go_sem,hN,endV,Y.len,Y.loc,Y.loc1];refine qaj (qdk (decide (u.k=3)) _) ?_;rintro r h' ⟨⟨hm,rfl⟩ | ⟨hm,rfl⟩,rfl⟩<;>simp at hm
  rotate_left
  ·
   simp -dsimp [go_sem,hN,endU,hm];exact ⟨_,.refl _,K s1.q,by simp [go_sem],by first | exact hwk.refl _ | exact hwk.app0 _ | simp [hwk.refl],by simp [Y.len],Y.und' _,by first | rfl | simp,by first | rfl | simp [MS.q]⟩
  simp only [hm,if_true];simp -dsimp [go_sem,hN,Y.len,Y.loc,Y.loc1];refine cnd ?_ ?_<;>intro hx<;>simp at hx
  ·
   simp only [hx,if_true];simp -dsimp [go_sem,hN,Y.len,Y.loc,Y.loc1];refine qaj (qd6 hF hC t.body hbody (Y.ext [_,_] (by simp [hUnder,AObj.under,AV.under,qam])) s1 (h1.1.mono (by omega) (by omega))) ?_;rintro r h' ⟨rfl,rfl⟩;rcases blkI C t.body s1 with ⟨z | ⟨⟩,s2⟩<;>simp -dsimp [go_sem,hN,endU]<;>exact ⟨_,.refl _,K s2.q,by simp [go_sem],by first | exact hwk.refl _ | exact hwk.app0 _ | simp [hwk.refl],by simp [Y.len],Y.und' _,by first | rfl | simp,by first | rfl | simp [MS.q]⟩
  ·
   simp only [hx,if_false];simp -dsimp [go_sem,hN,Y.len,Y.loc,Y.loc1];refine qaj (qd6 hF hC t.els hels (Y.ext [_,_] (by simp [hUnder,AObj.under,AV.under,qam])) s1 (h1.1.mono (by omega) (by omega))) ?_;rintro r h' ⟨rfl,rfl⟩;rcases blkI C t.els s1 with ⟨z | ⟨⟩,s2⟩<;>simp -dsimp [go_sem,hN,endU]<;>exact ⟨_,.refl _,K s2.q,by simp [go_sem],by first | exact hwk.refl _ | exact hwk.app0 _ | simp [hwk.refl],by simp [Y.len],Y.und' _,by first | rfl | simp,by first | rfl | simp [MS.q]⟩
 simp only [h5,if_false];simp -dsimp [go_sem,hN,Y.len,Y.loc];refine cnd ?_ ?_<;>intro h6<;>simp at h6
 ·
  rw [if_pos h6];simp -dsimp [go_sem,hN,Y.len,Y.loc];refine qaj (c_machine_loop hF hC (Y.ext [_] (by simp [hUnder,AObj.under,AV.under,qam])) t h6 hG s hI (fun Y' s' hI'=>qd6 hF hC t.body hbody Y' s' hI')) ?_;rintro r h' ⟨rfl,rfl⟩;rcases stI C t s with ⟨z | ⟨⟩,s2⟩<;>simp -dsimp [go_sem,hN,endU]<;>exact ⟨_,.refl _,K s2.q,by simp [go_sem],by first | exact hwk.refl _ | exact hwk.app0 _ | simp [hwk.refl],by simp [Y.len],Y.und' _,by first | rfl | simp,by first | rfl | simp [MS.q]⟩
 simp only [h6,if_false];simp -dsimp [go_sem,hN,Y.len,Y.loc];refine cnd ?_ ?_<;>intro h7<;>simp at h7
 ·
  simp only [h7,if_true];have ha:=hA (by omega);have h1:=hI.eval hC (r:=4097) ha;simp -dsimp [go_sem,hN,Y.len,Y.loc];refine qaj (qbp hF hC (Y.ext [_] (by simp [hUnder,AObj.under,AV.under,qam])) s t.a ha.1 hI.rng hI.ar (by have:=ha.2;omega)) ?_;rintro r h' ⟨rfl,rfl⟩;rcases hE:evE C t.a s with ⟨z | u,s1⟩
  ·
   simp -dsimp [go_sem,hN,endV,endU];exact ⟨_,.refl _,K s1.q,by simp [go_sem],by first | exact hwk.refl _ | exact hwk.app0 _ | simp [hwk.refl],by simp [Y.len],Y.und' _,by first | rfl | simp,by first | rfl | simp [MS.q]⟩
  rw [hE] at h1;simp only at h1;dsimp only;have hot:=h1.1.ot;simp -dsimp [go_sem,hN,endV,Y.len,Y.loc,Y.loc1]
  repeat refine ⟨by grind,?_⟩
  refine qaj (qdk (decide (u.k=1)||decide (u.k=2)) _) ?_;rintro r h' ⟨⟨hm,rfl⟩ | ⟨hm,rfl⟩,rfl⟩<;>simp at hm
  rotate_left
  ·
   simp -dsimp [go_sem,hN,endU,hm];exact ⟨_,.refl _,K s1.q,by simp [go_sem],by first | exact hwk.refl _ | exact hwk.app0 _ | simp [hwk.refl],by simp [Y.len],Y.und' _,by first | rfl | simp,by first | rfl | simp [MS.q]⟩
  simp only [hm,if_true];simp -dsimp [go_sem,hN,Y.len,Y.loc,Y.loc1];refine qaj (c_machine_emit (Y.ext [_,_] (by simp [hUnder,AObj.under,AV.under,qam])) s1 u (by omega)) ?_;rintro r h' ⟨rfl,rfl⟩;rcases emitS u s1 with ⟨z | ⟨⟩,s2⟩<;>simp -dsimp [go_sem,hN,endU]<;>exact ⟨_,.refl _,K s2.q,by simp [go_sem],by first | exact hwk.refl _ | exact hwk.app0 _ | simp [hwk.refl],by simp [Y.len],Y.und' _,by first | rfl | simp,by first | rfl | simp [MS.q]⟩
 simp only [h7,if_false];simp -dsimp [go_sem,hN,Y.len,Y.loc];refine cnd ?_ ?_<;>intro h8<;>simp at h8
 ·
  simp only [h8,if_true];simp -dsimp [go_sem,hN,Y.len,Y.loc];refine qaj (qa5 t.max _) ?_;rintro r h' ⟨rfl,rfl⟩;simp -dsimp [go_sem,hN,endU];exact ⟨_,.refl _,K s.q,by simp [go_sem],by first | exact hwk.refl _ | exact hwk.app0 _ | simp [hwk.refl],by simp [Y.len],Y.und' _,by first | rfl | simp,by first | rfl | simp [MS.q]⟩
 ·
  simp only [h8,if_false];simp -dsimp [go_sem,hN,endU];exact ⟨_,.refl _,K s.q,by simp [go_sem],by first | exact hwk.refl _ | exact hwk.app0 _ | simp [hwk.refl],by simp [Y.len],Y.und' _,by first | rfl | simp,by first | rfl | simp [MS.q]⟩
termination_by (SizeOf.sizeOf t,0)
end
end Go.Proofs.YtilhejdbiionhaaGreatDoor

set_option maxRecDepth 4000
set_option maxHeartbeats 1000000
namespace Go.Proofs.YtilhejdbiionhaaGreatDoor
open Go Go.Abs Go.Cw
theorem c_interp_wrong (h:qab):ACalls Tryz.prog 40 [] h fun r h'=>r=.ret (.agg wrongE.c)∧h'=h:=by
 refine qaq Tryz.func40 Tryz.ntmps40 rfl (by kernel_rfl) rfl fun E hN hh hu hb hb' hua=>?_;simp -dsimp [go_sem,hN];exact ⟨_,.refl _,h,by simp [go_sem],by simp [go_sem],by simp,by simp [hu,go_sem],rfl,rfl⟩
theorem c_interp_newMachine (st:List Pr) (ft:Foot) (h:qab):ACalls Tryz.prog 41 [.slice (st.map Pr.c),.agg ft.c] h fun r h'=>r=.ret (.ptr (h.length+3) 0) ∧
  h'=h++[.cells ft.c,.map [],.map [],.cells [.slice (st.map Pr.c),Bo ft.all,.slice (ft.reads.map qa1),.slice (ft.writes.map qa1),.mapr (h.length+1),.mapr (h.length+2),I 0,I 0,.nils,.nils,.nils,.nils,S em,I 0]]:=by
 refine qaq Tryz.func41 Tryz.ntmps41 rfl (by kernel_rfl) rfl fun E hN hh hu hb hb' hua=>?_;simp -dsimp [go_sem,hN];refine ⟨by simp [liftK,liftC],_,.refl _,_,?_,hwk.refl _,by simp,?_,rfl,by rfl⟩
 · simp [go_sem]
 · simp [hu,qal hu,qan,go_sem]
end Go.Proofs.YtilhejdbiionhaaGreatDoor

set_option maxRecDepth 4000
namespace Go.Proofs.YtilhejdbiionhaaGreatDoor
open Go Go.Abs Go.Cw
variable {c a b d:Nat} {H:TS→qab} {n0:Nat}
theorem c_checker_declare (T:TH c a b d H n0) (s:TS) (name:qac) (ty:Int) :
  ACalls Tryz.prog 142 [.ptr c 0,S name,I ty] (H s) fun r h'=>r=.ret (.tuple [])∧h'=H (s.decl name ty):=by
 refine qaq Tryz.func142 Tryz.ntmps142 rfl (by kernel_rfl) rfl fun E hN hh hu hb hb' hua=>?_;simp -dsimp [go_sem,hN,T.lc,T.la,T.ld,T.sa,T.sd];exact ⟨_,.refl _,H (s.decl name ty),rfl,by simp [TS.decl],by simp [T.len],T.und' _,rfl,rfl⟩
theorem c_checker_operands (T:TH c a b d H n0) (s:TS) (t:St) (hA:t.op≠8→chkE t.a 1=0) (hB:t.op=3∨t.op=6→chkE t.b 1=0) :
  ACalls Tryz.prog 238 [.ptr c 0,.agg t.x] (H s) fun r h'=>r=.ret (.tuple [I (qc8 s.visible t).1,I (qc8 s.visible t).2.1,I (qc8 s.visible t).2.2])∧h'=H s:=by
 refine qaq Tryz.func238 Tryz.ntmps238 rfl (by kernel_rfl) rfl fun E hN hh hu hb hb' hua=>?_;simp -dsimp [go_sem,hN];refine cnd ?_ ?_<;>intro h0<;>simp at h0
 ·
  simp -dsimp [go_sem,hN];rw [qc8,if_pos h0];exact ⟨_,.refl _,H s,rfl,by simp,by simp,hu,rfl,rfl⟩
 simp -dsimp [go_sem,hN];refine qea 11 6 [] mixed (by kernel_rfl) ?_;simp -dsimp [go_sem,hN,T.lc',T.la'];refine qdr (c_types_of s.visible t.a 1 (hA h0) _ a (T.la' s _)) ?_;simp -dsimp [go_sem,hN];refine ⟨by grind,?_⟩;refine cnd ?_ ?_<;>intro h1<;>simp at h1
 ·
  simp -dsimp [go_sem,hN];refine qea 11 6 [] mixed (by kernel_rfl) ?_;simp -dsimp [go_sem,hN,T.lc',T.la'];refine qdr (c_types_of s.visible t.b 1 (hB h1.2) _ a (T.la' s _)) ?_;simp -dsimp [go_sem,hN];rw [qc8,if_neg h0,if_pos h1];exact ⟨_,.refl _,H s,rfl,by simp,by simp,hu,rfl,rfl⟩
 ·
  simp -dsimp [go_sem,hN];rw [qc8,if_neg h0,if_neg (by rintro ⟨h2,h3⟩;have:=h1 h2;omega)];exact ⟨_,.refl _,H s,rfl,by simp,by simp,hu,rfl,rfl⟩
set_option maxHeartbeats 4000000 in
mutual
theorem qd8 {H:TS→qab} {n0:Nat} (T:TH c a b d H n0) (s:TS) (l:List St) (dp:Nat) (hl:okL l dp) :
  ACalls Tryz.prog 143 [.ptr c 0,.slice (l.map St.c)] (H s) fun r h'=>r=.ret (I (blkT l s).1)∧h'=H (blkT l s).2:=by
 refine qaq Tryz.func143 Tryz.ntmps143 rfl (by kernel_rfl) rfl fun E hN hh hu hb hb' hua=>?_;simp [go_sem] at hb;simp -dsimp [go_sem,hN];refine qat (α:=TS) l.length (fun n x=>qdb (l.drop n) x=qdb l s) (fun n x=>⟨[(0,.ptr c 0),(1,.slice (l.map St.c)),(10,.slice (l.map St.c)),(11,I l.length),(12,I n)],H x⟩) s (by simp) (Wk.mk (by simp [hh,T.len]) (by simp [go_sem]) (T.und' _) (by have:=T.hc;simp [go_sem,T.len];omega)) ?_;intro n x hn hI;have hw:=qa3 hn hb.1;simp -dsimp [go_sem,hN];refine cnd ?_ ?_<;>intro hc<;>simp at hc
 ·
  rw [qae hc,qdb] at hI;have hlt:SizeOf.sizeOf l[n]<SizeOf.sizeOf l:=List.sizeOf_lt_of_mem (List.getElem_mem hc);simp -dsimp [go_sem,hN,hc];refine qaj (c_checker_statement (T.ext [.cells l[n].x] (by simp [go_sem])) x l[n] dp (hl _ (List.getElem_mem hc))) ?_;rintro r h' ⟨rfl,rfl⟩;simp -dsimp [go_sem,hN];refine cnd ?_ ?_<;>intro h1<;>simp at h1
  ·
   rw [if_pos h1] at hI;simp -dsimp [go_sem,hN];rw [blkT,qcg,← hI,if_pos h1];exact ⟨_,.refl _,H (stT l[n] x).2,rfl,by simp,by simp [T.len],T.und' _,rfl,rfl⟩
  ·
   rw [if_neg (by simpa using h1)] at hI;simp -dsimp [go_sem,hN,hw];exact ⟨hc,_,hI,Wk.mk (by simp [hh,T.len]) (by simp [go_sem]) (T.und' _) (by have:=T.hc;simp [go_sem,T.len];omega)⟩
 rw [List.drop_eq_nil_of_le (by omega),qdb] at hI;simp -dsimp [go_sem,hN];refine qat (α:=List (qac×Int)) l.length (fun n v=>qdc (l.drop n) v=qdc l x.visible) (fun n v=>⟨[(0,.ptr c 0),(23,.slice (l.map St.c)),(24,I l.length),(25,I n)],H ⟨v,x.loops,x.all⟩⟩) x.visible (by simp) (Wk.mk (by simp [hh,T.len]) (by simp [go_sem]) (T.und' _) (by have:=T.hc;simp [go_sem,T.len];omega)) ?_;intro n v hn hJ;have hw:=qa3 hn hb.1;simp -dsimp [go_sem,hN];refine cnd ?_ ?_<;>intro hc<;>simp at hc
 ·
  rw [qae hc,qdc] at hJ;simp -dsimp [go_sem,hN,hc];refine cnd ?_ ?_<;>intro h1<;>simp at h1
  ·
   rw [if_pos h1] at hJ;simp -dsimp [go_sem,hN];refine qak 6 mixed (by kernel_rfl) (by kernel_rfl) ?_;simp -dsimp [go_sem,hN,T.lc',T.la',T.sa',hw];exact ⟨hc,_,hJ,Wk.mk (by simp [hh,T.len]) (by simp [go_sem]) (T.und' _) (by have:=T.hc;simp [go_sem,T.len];omega)⟩
  ·
   rw [if_neg h1] at hJ;simp -dsimp [go_sem,hN,hw];exact ⟨hc,_,hJ,Wk.mk (by simp [hh,T.len]) (by simp [go_sem]) (T.und' _) (by have:=T.hc;simp [go_sem,T.len];omega)⟩
 ·
  rw [List.drop_eq_nil_of_le (by omega),qdc] at hJ;simp -dsimp [go_sem,hN];rw [blkT,qcg,← hI,if_neg (by simp),hJ];exact ⟨_,.refl _,H ⟨qdc l x.visible,x.loops,x.all⟩,rfl,by simp,by simp [T.len],T.und' _,rfl,rfl⟩
termination_by SizeOf.sizeOf l
theorem c_checker_statement {H:TS→qab} {n0:Nat} (T:TH c a b d H n0) (s:TS) (t:St) (dp:Nat) (ht:okS t dp) :
  ACalls Tryz.prog 195 [.ptr c 0,.agg t.x] (H s) fun r h'=>r=.ret (I (stT t s).1)∧h'=H (stT t s).2:=by
 refine qaq Tryz.func195 Tryz.ntmps195 rfl (by kernel_rfl) rfl fun E hN hh hu hb hb' hua=>?_;simp -dsimp [go_sem,hN];refine qaj (c_checker_operands (T.ext [.cells t.x] (by simp [go_sem])) s t ?_ ?_) ?_
 · exact fun h0=>okS_a ht h0
 · exact fun h0=>okS_b ht h0
 rintro r h' ⟨rfl,rfl⟩;have hbody:=((qcm t dp).1 ht).2.1;have hels:=((qcm t dp).1 ht).2.2;have lt1:=St.body_le t;have lt2:=St.els_le t;have lb0:∀ (s:TS) (l:qab),(H s++l).length=n0+l.length:=fun s l=>by rw [List.length_append,T.len]
 rw [stT_eq,stStep];simp -dsimp [go_sem,hN];refine cnd ?_ ?_<;>intro h1<;>simp at h1
 ·
  rw [if_pos h1];simp -dsimp [go_sem,hN];exact ⟨_,.refl _,H s,rfl,by simp,by simp,hu,rfl,rfl⟩
 rw [if_neg (by simpa using h1)];simp -dsimp [go_sem,hN];refine cnd ?_ ?_<;>intro h2<;>simp at h2
 ·
  rw [if_pos h2];simp -dsimp [go_sem,hN];refine qaj (c_checker_declare (T.ext [.cells t.x] (by simp [go_sem])) s t.name _) ?_;rintro r h' ⟨rfl,rfl⟩;simp -dsimp [go_sem,hN];exact ⟨_,.refl _,H (s.decl t.name (qc8 s.visible t).1),rfl,by simp,by simp [T.len],T.und' _,by first | rfl | grind | simp [*],by first | rfl | grind | simp [*]⟩
 rw [if_neg h2];simp -dsimp [go_sem,hN];refine cnd ?_ ?_<;>intro h3<;>simp at h3
 ·
  rw [if_pos h3];simp -dsimp [go_sem,hN];refine qak 11 mixed (by kernel_rfl) (by kernel_rfl) ?_;rcases hk:qbm s.visible t.name with _ | ty
  ·
   simp -dsimp [go_sem,hN,T.lc',T.la',hk];exact ⟨_,.refl _,H s,rfl,by simp,by simp [T.len],T.und' _,by first | rfl | grind | simp [*],by first | rfl | grind | simp [*]⟩
  ·
   simp -dsimp [go_sem,hN,T.lc',T.la',hk];refine qak 6 mixed (by kernel_rfl) (by kernel_rfl) ?_;rcases hl:qbm s.loops t.name with _ | bo
   ·
    simp -dsimp [go_sem,hN,T.lc',T.lb',hl];refine cnd ?_ ?_<;>intro h4<;>simp at h4
    ·
     simp -dsimp [go_sem,hN];exact ⟨_,.refl _,H s,rfl,by simp,by simp [T.len],T.und' _,by first | rfl | grind | simp [*],by first | rfl | grind | simp [*]⟩
    ·
     simp -dsimp [go_sem,hN];exact ⟨_,.refl _,H s,rfl,by simp,by simp [T.len],T.und' _,by first | rfl | grind | simp [*],by first | rfl | grind | simp [*]⟩
   ·
    simp -dsimp [go_sem,hN,T.lc',T.lb',hl];refine cnd (fun h4=>?_) (fun h4=>?_)
    ·
     simp -dsimp [go_sem,hN];exact ⟨_,.refl _,H s,rfl,by simp,by simp [T.len],T.und' _,by first | rfl | grind | simp [*],by first | rfl | grind | simp [*]⟩
    ·
     simp -dsimp [go_sem,hN];refine cnd ?_ ?_<;>intro h5<;>simp at h5
     ·
      simp -dsimp [go_sem,hN];exact ⟨_,.refl _,H s,rfl,by simp,by simp [T.len],T.und' _,by first | rfl | grind | simp [*],by first | rfl | grind | simp [*]⟩
     ·
      simp -dsimp [go_sem,hN];exact ⟨_,.refl _,H s,rfl,by simp,by simp [T.len],T.und' _,by first | rfl | grind | simp [*],by first | rfl | grind | simp [*]⟩
 rw [if_neg h3];simp -dsimp [go_sem,hN];refine cnd ?_ ?_<;>intro h4<;>simp at h4
 ·
  rw [if_pos h4];simp -dsimp [go_sem,hN]
  repeat refine ⟨by grind,?_⟩
  refine cnd ?_ ?_<;>intro h5<;>simp at h5
  ·
   simp -dsimp [go_sem,hN];exact ⟨_,.refl _,H s,rfl,by simp,by simp [T.len],T.und' _,by first | rfl | grind | simp [*],by first | rfl | grind | simp [*]⟩
  ·
   simp -dsimp [go_sem,hN];exact ⟨_,.refl _,H s,rfl,by simp,by simp [T.len],T.und' _,by first | rfl | grind | simp [*],by first | rfl | grind | simp [*]⟩
 rw [if_neg h4];simp -dsimp [go_sem,hN];refine cnd ?_ ?_<;>intro h5<;>simp at h5
 ·
  rw [if_pos h5];simp -dsimp [go_sem,hN];refine cnd ?_ ?_<;>intro h6<;>simp at h6
  ·
   simp -dsimp [go_sem,hN];exact ⟨_,.refl _,H s,rfl,by simp,by simp [T.len],T.und' _,by first | rfl | grind | simp [*],by first | rfl | grind | simp [*]⟩
  ·
   simp -dsimp [go_sem,hN];exact ⟨_,.refl _,H s,rfl,by simp,by simp [T.len],T.und' _,by first | rfl | grind | simp [*],by first | rfl | grind | simp [*]⟩
 rw [if_neg h5];simp -dsimp [go_sem,hN];refine cnd ?_ ?_<;>intro h6<;>simp at h6
 ·
  rw [if_pos h6];simp -dsimp [go_sem,hN];refine cnd ?_ ?_<;>intro h7<;>simp at h7
  ·
   simp -dsimp [go_sem,hN];exact ⟨_,.refl _,H s,rfl,by simp,by simp [T.len],T.und' _,by first | rfl | grind | simp [*],by first | rfl | grind | simp [*]⟩
  ·
   simp -dsimp [go_sem,hN];exact ⟨_,.refl _,H s,rfl,by simp,by simp [T.len],T.und' _,by first | rfl | grind | simp [*],by first | rfl | grind | simp [*]⟩
 rw [if_neg h6];simp -dsimp [go_sem,hN];refine cnd ?_ ?_<;>intro h7<;>simp at h7
 ·
  rw [if_pos h7];simp -dsimp [go_sem,hN];refine cnd ?_ ?_<;>intro h8<;>simp at h8
  ·
   simp -dsimp [go_sem,hN];exact ⟨_,.refl _,H s,rfl,by simp,by simp [T.len],T.und' _,by first | rfl | grind | simp [*],by first | rfl | grind | simp [*]⟩
  rw [if_neg (by simpa using h8)];simp -dsimp [go_sem,hN];refine qaj (qd8 (T.ext [.cells t.x] (by simp [go_sem])) s t.body (dp+1) hbody) ?_;rintro r h' ⟨rfl,rfl⟩;simp -dsimp [go_sem,hN];refine cnd ?_ ?_<;>intro h9<;>simp at h9
  ·
   simp -dsimp [go_sem,hN];exact ⟨_,.refl _,H (blkT t.body s).2,rfl,by simp,by simp [T.len],T.und' _,by first | rfl | grind | simp [*],by first | rfl | grind | simp [*]⟩
  rw [if_neg (by simpa using h9)];simp -dsimp [go_sem,hN,lb0,T.len];refine qaj (qd8 (T.ext [.cells t.x] (by simp [go_sem])) (blkT t.body s).2 t.els (dp+1) hels) ?_;rintro r h' ⟨rfl,rfl⟩;simp -dsimp [go_sem,hN];exact ⟨_,.refl _,H (blkT t.els (blkT t.body s).2).2,rfl,by simp,by simp [T.len],T.und' _,by first | rfl | grind | simp [*],by first | rfl | grind | simp [*]⟩
 rw [if_neg h7];simp -dsimp [go_sem,hN];refine cnd ?_ ?_<;>intro h8<;>simp at h8
 ·
  rw [if_pos h8];simp -dsimp [go_sem,hN]
  repeat refine ⟨by grind,?_⟩
  refine cnd ?_ ?_<;>intro h9<;>simp at h9
  ·
   simp -dsimp [go_sem,hN];exact ⟨_,.refl _,H s,rfl,by simp,by simp [T.len],T.und' _,by first | rfl | grind | simp [*],by first | rfl | grind | simp [*]⟩
  rw [if_neg (by grind)];simp -dsimp [go_sem,hN];refine qaj (c_checker_declare (T.ext [.cells t.x] (by simp [go_sem])) s t.name 1) ?_;rintro r h' ⟨rfl,rfl⟩;simp -dsimp [go_sem,hN];refine qak 6 mixed (by kernel_rfl) (by kernel_rfl) ?_;simp -dsimp [go_sem,hN,T.lc',T.lb',T.sb',T.len];refine qaj (qd8 (T.ext [.cells t.x] (by simp [go_sem])) ⟨qbz s.visible t.name 1,qbz s.loops t.name true,qbz s.all t.name 1⟩ t.body (dp+1) hbody) ?_;rintro r h' ⟨rfl,rfl⟩;simp -dsimp [go_sem,hN];refine qak 6 mixed (by kernel_rfl) (by kernel_rfl) ?_;simp -dsimp [go_sem,hN,T.lc',T.la',T.sa',T.len];exact ⟨_,.refl _,H ⟨kDel (blkT t.body ⟨qbz s.visible t.name 1,qbz s.loops t.name true,qbz s.all t.name 1⟩).2.visible t.name,(blkT t.body ⟨qbz s.visible t.name 1,qbz s.loops t.name true,qbz s.all t.name 1⟩).2.loops,(blkT t.body ⟨qbz s.visible t.name 1,qbz s.loops t.name true,qbz s.all t.name 1⟩).2.all⟩,rfl,by simp,by simp [T.len],T.und' _,by first | rfl | grind | simp [*],by first | rfl | grind | simp [*]⟩
 rw [if_neg h8];simp -dsimp [go_sem,hN];exact ⟨_,.refl _,H s,rfl,by simp,by simp [T.len],T.und' _,by first | rfl | grind | simp [*],by first | rfl | grind | simp [*]⟩
termination_by SizeOf.sizeOf t
end
end Go.Proofs.YtilhejdbiionhaaGreatDoor
