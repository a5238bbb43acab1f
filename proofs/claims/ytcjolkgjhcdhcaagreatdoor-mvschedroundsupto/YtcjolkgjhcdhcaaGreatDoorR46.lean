/- Part 46 of a proof: W75, W54, W77, W76, OP, OS, LB, OM -/
import Derived.Test.YtcjolkgjhcdhcaaGreatDoorRows
import Derived.KernelRfl
import Derived.Test.YtcjolkgjhcdhcaaGreatDoorCards
import Derived.Test.YtcjolkgjhcdhcaaGreatDoorTie
import Derived.ProofKit
import Derived.OpenShut
import Derived.Carry
import Derived.Deep.DeepHandedRow
import Derived.Lib.LaidTab
import Derived.Stop.LaidErr
import Derived.Test.YtcjolkgjhcdhcaaGreatDoorR19
import Derived.Test.YtcjolkgjhcdhcaaGreatDoorR24
import Derived.Test.YtcjolkgjhcdhcaaGreatDoorR26
import Derived.Test.YtcjolkgjhcdhcaaGreatDoorR30
import Derived.Test.YtcjolkgjhcdhcaaGreatDoorR35
import Derived.Test.YtcjolkgjhcdhcaaGreatDoorR39
import Derived.Test.YtcjolkgjhcdhcaaGreatDoorR40
import Derived.Test.YtcjolkgjhcdhcaaGreatDoorR41
import Derived.Test.YtcjolkgjhcdhcaaGreatDoorR45
set_option linter.all false

set_option maxRecDepth 4000
set_option maxHeartbeats 2000000
namespace Go.Proofs.YtcjolkgjhcdhcaaGreatDoor
open Go Go.Abs Go.Cw
def fewF (f:Foot) (n:Int):Bool:=decide ((f.reads.length:Int)≤n)&&decide ((f.writes.length:Int)≤n)&&(f.reads.all fun k=>decide (k.size≤100))&&(f.writes.all fun k=>decide (k.size≤100))
theorem c_ref19_Few (f:Foot) (n:Int):APure Tryz.prog 28 [.agg f.c,I n] (Bo (fewF f n)):=by
 refine qaj Tryz.func28 Tryz.ntmps28 rfl (by kernel_rfl) rfl rfl fun E h hN hh hu hb=>?_;simp [go_sem,Foot.c] at hb;obtain ⟨r,hr⟩:∃ r,fewF f n=r:=⟨_,rfl⟩
 rw [hr];unfold fewF at hr;by_cases h1:(f.reads.length:Int)≤n
 ·
  by_cases h2:(f.writes.length:Int)≤n
  ·
   rw [decide_eq_true h1,decide_eq_true h2,Bool.true_and,Bool.true_and] at hr;have h1':¬ n<(f.reads.length:Int):=by omega
   have h2':¬ n<(f.writes.length:Int):=by omega
   simp -dsimp [go_sem,hN,Foot.c,h1',h2'];refine qaf f.reads.length (fun m=>((f.reads.drop m).all fun k=>decide (k.size≤100))=(f.reads.all fun k=>decide (k.size≤100))) (fun m=>⟨[(2,P0 h.length),(5,I m)],h++[.cells f.c]⟩) (by simp) ?_ ?_
   · exact Wk.mk (by simp [hh]) (by simp [go_sem,Foot.c]) (by simp [hu,qag hu,go_sem]) (by simp [go_sem])
   intro m hm hI;have hw:=qaq hm (show _≤68719476736 by omega);simp -dsimp [go_sem,hN,Foot.c];refine cnd ?_ ?_<;>intro hc<;>simp at hc
   ·
    rw [qad hc,List.all_cons] at hI;by_cases hk:f.reads[m].size≤100
    ·
     have hk':¬ (100:Int)<(f.reads[m].size:Int):=by omega
     rw [decide_eq_true hk,Bool.true_and] at hI;simp -dsimp [go_sem,hN,hc,hk',hw,Foot.c];exact ⟨hI,Wk.mk (by simp [hh]) (by simp [go_sem,Foot.c]) (by simp [hu,qag hu,go_sem]) (by simp [go_sem])⟩
    ·
     have hk':(100:Int)<(f.reads[m].size:Int):=by omega
     rw [decide_eq_false hk,Bool.false_and] at hI;rw [← hI,Bool.false_and] at hr;subst hr;simp -dsimp [go_sem,hN,hc,hk',hw,Foot.c]
   ·
    rw [List.drop_eq_nil_of_le (by omega),List.all_nil] at hI;rw [← hI,Bool.true_and] at hr;simp -dsimp [go_sem,hN];refine qaf f.writes.length (fun m=>((f.writes.drop m).all fun k=>decide (k.size≤100))=r) (fun m=>⟨[(2,P0 h.length),(6,I m)],h++[.cells f.c]⟩) (by simpa using hr) ?_ ?_
    · exact Wk.mk (by simp [hh]) (by simp [go_sem,Foot.c]) (by simp [hu,qag hu,go_sem]) (by simp [go_sem])
    intro m hm hI;have hw:=qaq hm (show _≤68719476736 by omega);simp -dsimp [go_sem,hN,Foot.c];refine cnd ?_ ?_<;>intro hc<;>simp at hc
    ·
     rw [qad hc,List.all_cons] at hI;by_cases hk:f.writes[m].size≤100
     ·
      have hk':¬ (100:Int)<(f.writes[m].size:Int):=by omega
      rw [decide_eq_true hk,Bool.true_and] at hI;simp -dsimp [go_sem,hN,hc,hk',hw,Foot.c];exact ⟨hI,Wk.mk (by simp [hh]) (by simp [go_sem,Foot.c]) (by simp [hu,qag hu,go_sem]) (by simp [go_sem])⟩
     ·
      have hk':(100:Int)<(f.writes[m].size:Int):=by omega
      rw [decide_eq_false hk,Bool.false_and] at hI;subst hI;simp -dsimp [go_sem,hN,hc,hk',hw,Foot.c]
    ·
     rw [List.drop_eq_nil_of_le (by omega),List.all_nil] at hI;subst hI;simp -dsimp [go_sem,hN]
  ·
   rw [decide_eq_false h2] at hr;simp only [Bool.and_false,Bool.false_and] at hr;subst hr;have h1':¬ n<(f.reads.length:Int):=by omega
   have h2':n<(f.writes.length:Int):=by omega
   simp -dsimp [go_sem,hN,Foot.c,h1',h2']
 ·
  rw [decide_eq_false h1] at hr;simp only [Bool.false_and] at hr;subst hr;have h1':n<(f.reads.length:Int):=by omega
  simp -dsimp [go_sem,hN,Foot.c,h1']
theorem c_ref08_countExpr (e:Ex) (d:Int) (h:qab):ACalls Tryz.prog 88 [.agg e.x,I d] h fun r h'=>(∃ n:Int,r=.ret (I n))∧h'=h:=by
 refine qav Tryz.func88 Tryz.ntmps88 rfl (by kernel_rfl) rfl fun E hN hh hu hb hb' hua=>?_;simp [go_sem] at hb;simp -dsimp [go_sem,hN];refine qas (α:=Int) e.args.length (fun n v=>True) (fun n v=>⟨[(1,I d),(2,.ptr h.length 0),(5,I v),(6,I n)],h++[.cells e.x]⟩) (IntKind.i64.wrap (1+IntKind.i64.wrap ((e.s.size:Int) / 64))) trivial ?_ ?_
 · exact wkA
 rintro n v hn -;have hw:=qaq hn (show _≤68719476736 by omega);by_cases hc:n<e.args.length
 ·
  have hlt:SizeOf.sizeOf e.args[n]<SizeOf.sizeOf e:=Ex.arg_lt (List.getElem_mem hc);simp -dsimp [go_sem,hN,hc];refine cnd ?_ ?_<;>intro hd<;>simp at hd
  ·
   simp -dsimp [go_sem,hN,hc];refine qan (c_ref08_countExpr e.args[n] _ _) ?_;rintro r h' ⟨⟨k,rfl⟩,rfl⟩;simp -dsimp [go_sem,hN,hw];exact ⟨hc,IntKind.i64.wrap (v+k),wkA⟩
  ·
   simp -dsimp [go_sem,hN];exact ⟨_,.refl _,h,by simp [go_sem],by simp [go_sem],by simp,hu,⟨_,rfl⟩,rfl⟩
 ·
  simp -dsimp [go_sem,hN,hc];exact ⟨_,.refl _,h,by simp [go_sem],by simp [go_sem],by simp,hu,⟨_,rfl⟩,rfl⟩
termination_by SizeOf.sizeOf e
theorem St.body_sz (s:St):SizeOf.sizeOf s.body<SizeOf.sizeOf s:=by
 cases s;simp [St.body];omega
theorem St.els_sz (s:St):SizeOf.sizeOf s.els<SizeOf.sizeOf s:=by
 cases s;simp [St.els];omega
theorem c_ref08_countBody (l:List St) (d:Int) (h:qab):ACalls Tryz.prog 69 [.slice (l.map St.c),I d] h fun r h'=>(∃ n:Int,r=.ret (I n))∧h'=h:=by
 refine qav Tryz.func69 Tryz.ntmps69 rfl (by kernel_rfl) rfl fun E hN hh hu hb hb' hua=>?_;simp [go_sem] at hb;simp -dsimp [go_sem,hN];refine qas (α:=Int) l.length (fun n v=>True) (fun n v=>⟨[(0,.slice (l.map St.c)),(1,I d),(5,I v),(6,I n)],h⟩) 0 trivial ?_ ?_
 · exact Wk.mk (by simp [hh]) (by simp [go_sem]) (by simp [hu,qag hu,go_sem]) (by simpa [go_sem] using hua)
 rintro n v hn -;have hw:=qaq hn (show _≤68719476736 by omega);by_cases hc:n<l.length
 ·
  have hlt:SizeOf.sizeOf l[n]<SizeOf.sizeOf l:=List.sizeOf_lt_of_mem (List.getElem_mem hc);have hlb:=St.body_sz l[n];have hle:=St.els_sz l[n];have e1:=fun d H=>c_ref08_countExpr l[n].a d H;have e2:=fun d H=>c_ref08_countExpr l[n].b d H;have e3:=fun d H=>c_ref08_countBody l[n].body d H;have e4:=fun d H=>c_ref08_countBody l[n].els d H;simp -dsimp [go_sem,hN,hc];refine cnd ?_ ?_<;>intro hd<;>simp at hd
  ·
   simp -dsimp [go_sem,hN,hc];refine qan (e1 _ _) ?_;rintro r h' ⟨⟨k1,rfl⟩,rfl⟩;simp -dsimp [go_sem,hN,hc];refine qan (e2 _ _) ?_;rintro r h' ⟨⟨k2,rfl⟩,rfl⟩;simp -dsimp [go_sem,hN,hc];refine qan (e3 _ _) ?_;rintro r h' ⟨⟨k3,rfl⟩,rfl⟩;simp -dsimp [go_sem,hN,hc];refine qan (e4 _ _) ?_;rintro r h' ⟨⟨k4,rfl⟩,rfl⟩;simp -dsimp [go_sem,hN,hc,hw];exact ⟨IntKind.i64.wrap (IntKind.i64.wrap (IntKind.i64.wrap (IntKind.i64.wrap (IntKind.i64.wrap (IntKind.i64.wrap (v+1)+IntKind.i64.wrap ((l[n].name.size:Int) / 64))+k1)+k2)+k3)+k4),Wk.mk (by simp [hh]) (by simp [go_sem]) (by simp [hu,qag hu,go_sem]) (by simpa [go_sem] using hua)⟩
  ·
   simp -dsimp [go_sem,hN];exact ⟨_,.refl _,h,by simp [go_sem],by simp [go_sem],by simp,hu,⟨_,rfl⟩,rfl⟩
 ·
  simp -dsimp [go_sem,hN,hc];exact ⟨_,.refl _,h,by simp [go_sem],by simp [go_sem],by simp,hu,⟨_,rfl⟩,rfl⟩
termination_by SizeOf.sizeOf l
decreasing_by all_goals omega
theorem c_ref08_Small (p:Proc) (d:Int) (h:qab):ACalls Tryz.prog 37 [.agg p.c,I d] h fun r h'=>(∃ b:Bool,r=.ret (Bo b))∧h'=h:=by
 refine qav Tryz.func37 Tryz.ntmps37 rfl (by kernel_rfl) rfl fun E hN hh hu hb hb' hua=>?_;simp [go_sem,Proc.c] at hb;simp -dsimp [go_sem,hN,Proc.c];by_cases h1:(40:Int)<(p.params.length:Int)
 ·
  simp -dsimp [go_sem,hN,h1];exact ⟨_,.refl _,h,by simp [go_sem],by simp [go_sem],by simp,hu,.inl rfl,rfl⟩
 by_cases h2:(200:Int)<(p.name.size:Int)
 ·
  simp -dsimp [go_sem,hN,h1,h2];exact ⟨_,.refl _,h,by simp [go_sem],by simp [go_sem],by simp,hu,.inl rfl,rfl⟩
 simp -dsimp [go_sem,hN,h1,h2];refine qaf p.params.length (fun n=>True) (fun n=>⟨[(1,I d),(2,P0 h.length),(5,I n)],h++[.cells p.c]⟩) trivial ?_ ?_
 · exact Wk.mk (by simp [hh]) (by simp [go_sem,Proc.c]) (by simp [hu,qag hu,go_sem]) (by simp [go_sem])
 intro n hn _;have hw:=qaq hn (show _≤68719476736 by omega);simp -dsimp [go_sem,hN,Proc.c];refine cnd ?_ ?_<;>intro hc<;>simp at hc
 ·
  by_cases h3:(200:Int)<(p.params[n].name.size:Int)
  ·
   simp -dsimp [go_sem,hN,hc,h3,Param.c];exact ⟨_,.refl _,h,by simp [go_sem],by simp [go_sem],by simp,hu,.inl rfl,rfl⟩
  ·
   simp -dsimp [go_sem,hN,hc,h3,hw,Param.c];exact Wk.mk (by simp [hh]) (by simp [go_sem,Proc.c]) (by simp [hu,qag hu,go_sem]) (by simp [go_sem])
 ·
  simp -dsimp [go_sem,hN,Proc.c];refine qan (c_ref08_countBody p.body d _) ?_;rintro r h' ⟨⟨k,rfl⟩,rfl⟩;simp -dsimp [go_sem,hN];exact ⟨_,.refl _,h,by simp [go_sem],by simp [go_sem],by simp,hu,by by_cases hk:k≤d<;>simp [hk],rfl⟩
theorem c_law26_small (procs:List Proc) (s:List Pr) (l:List Txn) (h:qab):ACalls Tryz.prog 18 [.agg [.slice (procs.map Proc.c),.slice (s.map Pr.c),.slice (l.map Txn.c)]] h fun r h'=>(∃ b:Bool,r=.ret (Bo b)∧(b=true→procs.length≤16∧s.length≤60∧l.length≤12))∧h'=h:=by
 refine qav Tryz.func18 Tryz.ntmps18 rfl (by kernel_rfl) rfl fun E hN hh hu hb hb' hua=>?_;simp [go_sem] at hb;by_cases h1:(16:Int)<(procs.length:Int)
 ·
  simp -dsimp [go_sem,hN,h1];exact ⟨_,.refl _,h,by simp [go_sem],by simp [go_sem],by simp,hu,.inl rfl,rfl⟩
 by_cases h2:(60:Int)<(s.length:Int)
 ·
  simp -dsimp [go_sem,hN,h1,h2];exact ⟨_,.refl _,h,by simp [go_sem],by simp [go_sem],by simp,hu,.inl rfl,rfl⟩
 by_cases h3:(12:Int)<(l.length:Int)
 ·
  simp -dsimp [go_sem,hN,h1,h2,h3];exact ⟨_,.refl _,h,by simp [go_sem],by simp [go_sem],by simp,hu,.inl rfl,rfl⟩
 simp -dsimp [go_sem,hN,h1,h2,h3];refine qaf procs.length (fun n=>True) (fun n=>⟨[(1,P0 h.length),(3,I n)],h++[.cells [.slice (procs.map Proc.c),.slice (s.map Pr.c),.slice (l.map Txn.c)]]⟩) trivial ?_ ?_
 · exact wkA
 intro n hn _;have hw:=qaq hn (show _≤68719476736 by omega);simp -dsimp [go_sem,hN];refine cnd ?_ ?_<;>intro hc<;>simp at hc
 ·
  have e1:=fun H=>c_ref08_Small procs[n] 600 H;simp -dsimp [go_sem,hN,hc,Proc.c];refine qan (e1 _) ?_;rintro r h' ⟨⟨b,rfl⟩,hh'⟩;subst hh';simp -dsimp [go_sem,hN];refine cnd (fun hd=>?_) (fun hd=>?_)
  ·
   simp -dsimp [go_sem,hN];exact ⟨_,.refl _,h,by simp [go_sem],by simp [go_sem],by simp,hu,.inl rfl,rfl⟩
  ·
   simp -dsimp [go_sem,hN,hw];exact ⟨hc,wkA⟩
 ·
  simp -dsimp [go_sem,hN];refine qaf l.length (fun n=>True) (fun n=>⟨[(1,P0 h.length),(4,I n)],h++[.cells [.slice (procs.map Proc.c),.slice (s.map Pr.c),.slice (l.map Txn.c)]]⟩) trivial ?_ ?_
  · exact wkA
  intro n hn _;have hw:=qaq hn (show _≤68719476736 by omega);simp -dsimp [go_sem,hN];refine cnd ?_ ?_<;>intro hc<;>simp at hc
  ·
   by_cases h4:(40:Int)<(l[n].args.length:Int)
   ·
    simp -dsimp [go_sem,hN,hc,h4,Txn.c];refine qae (c_ref19_Few l[n].ft 70) (by simp) ?_;simp -dsimp [go_sem,hN];exact ⟨_,.refl _,h,by simp [go_sem],by simp [go_sem],by simp,hu,.inl rfl,rfl⟩
   ·
    have h4':¬ 40<l[n].args.length:=by omega
    simp -dsimp [go_sem,hN,hc,h4,h4',Txn.c];refine qae (c_ref19_Few l[n].ft 70) (by simp) ?_;simp -dsimp [go_sem,hN];refine cnd (fun hd=>?_) (fun hd=>?_)
    ·
     simp -dsimp [go_sem,hN];exact ⟨_,.refl _,h,by simp [go_sem],by simp [go_sem],by simp,hu,.inl rfl,rfl⟩
    ·
     simp -dsimp [go_sem,hN,hw];exact ⟨hc,wkA⟩
  ·
   simp -dsimp [go_sem,hN];exact ⟨_,.refl _,h,by simp [go_sem],by simp [go_sem],by simp,hu,.inr ⟨rfl,by omega,by omega,by omega⟩,rfl⟩
end Go.Proofs.YtcjolkgjhcdhcaaGreatDoor

set_option maxRecDepth 4000
set_option maxHeartbeats 2000000
namespace Go.Proofs.YtcjolkgjhcdhcaaGreatDoor
open Go Go.Abs Go.Cw
variable {tT:TypeId} {tx:Nat×Nat} {g:Nat}
end Go.Proofs.YtcjolkgjhcdhcaaGreatDoor

set_option maxRecDepth 4000
set_option maxHeartbeats 2000000
namespace Go.Proofs.YtcjolkgjhcdhcaaGreatDoor
open Go Go.Abs Go.Cw
theorem c_same_reflM (l:List Pr):APure Tryz.prog 15 [.slice (l.map Pr.c),.slice (l.map Pr.c)] (Bo true):=by
 have:=c_ref06_Same l l
 rwa [sameL_refl (f:=eqP) (fun x=>by simp [eqP,eqVal])] at this
theorem c_effs_reflM (l:List Eff):APure Tryz.prog 21 [.slice (l.map Eff.c),.slice (l.map Eff.c)] (Bo true):=by
 have:=c_law26_same l l
 rwa [sameL_refl (f:=sameE) sameE_refl] at this
theorem c_ints_refl (l:List Nat):APure Tryz.prog 14 [.slice (l.map nR),.slice (l.map nR)] (Bo true):=by
 have:=c_ref23_Ints l l
 rwa [decide_eq_true rfl] at this
section
variable {tT:TypeId} {tx:Nat×Nat} {g:Nat}
theorem c_law26_MvschedRounds (procs:List Proc) (s:List Pr) (l:List Txn) (choices:List Int) (h:qab) (hg:h[g]?=some (tabO tT tx)) (hB:BatchIn qb3 procs l) (hs:rngL s) (hwk0:∀ H:qab,H[g]?=some (tabO tT tx)→ACalls Tryz.prog 11 [] H fun r h'=>r=.ret (Bo true)∧h'=H) :
  ACalls Tryz.prog 5 [.agg [.slice (procs.map Proc.c),.slice (s.map Pr.c),.slice (l.map Txn.c)],.slice (choices.map iRow)] h fun r h'=>r=.ret (Bo true)∧h'=h:=by
 refine qav Tryz.func5 Tryz.ntmps5 rfl (by kernel_rfl) rfl fun E hN hh hu hb hb' hua=>?_;have hgl:g<h.length:=(List.getElem?_eq_some_iff.1 hg).1;have hg':∀ l:qab,(h++l)[g]?=some (tabO tT tx):=fun l=>by rw [List.getElem?_append_left hgl];exact hg
 simp [go_sem] at hb;simp -dsimp [go_sem,hN];refine qan (c_law26_small procs s l _) ?_;rintro r h' ⟨⟨b,rfl,hb2⟩,he⟩;rw [he];simp -dsimp [go_sem,hN];refine cnd ?_ ?_<;>intro h0<;>simp at h0
 ·
  simp -dsimp [go_sem,hN];refine qan (hwk0 _ (hg' _)) ?_;rintro r h' ⟨rfl,he⟩;rw [he];simp -dsimp [go_sem,hN];exact ⟨_,.refl _,h,by simp [go_sem],by simp [go_sem],by simp,by simp [hu,go_sem],rfl,rfl⟩
 obtain ⟨hl1,hl2,hl3⟩:=hb2 h0;obtain ⟨m1,m2⟩:=mv_serial (choices:=choices) hB hs;have r1:=fun H hH=>c_mv_Round (g:=g) (tT:=tT) (tx:=tx) procs s l choices H hH hB hs (by omega);have r2:=c_ref26_Round procs s l choices hB hs (by omega) (by omega);rw [m1] at m2;simp only [m1,m2] at r1;obtain ⟨A,hA⟩:∃ A,qb2 qb3 procs s l=A:=⟨_,rfl⟩
 obtain ⟨O,hO⟩:∃ O,(mvN qb3 procs s l choices l.length).2.2=O:=⟨_,rfl⟩
 simp only [hA,hO] at r1 r2;simp -dsimp [go_sem,hN];refine qan (r1 _ (hg' _)) ?_;rintro r h' ⟨rfl,he⟩;rw [he];simp -dsimp [go_sem,hN];refine qaa r2 ?_;simp -dsimp [go_sem,hN];refine qaa (c_same_reflM A.1) ?_;simp -dsimp [go_sem,hN];refine qae (c_effs_reflM A.2) (by simp) ?_;simp -dsimp [go_sem,hN];refine qae (c_ints_refl O) (by simp) ?_;simp -dsimp [go_sem,hN];refine tgcall_true (by simp) ((hwk0 _ (hg' _)).mono ?_);rintro r h' ⟨rfl,he⟩;rw [he];simp -dsimp [go_sem,hN];exact ⟨_,.refl _,h,by simp [go_sem],by simp [go_sem],by simp,by simp [hu,go_sem],rfl,rfl⟩
end
end Go.Proofs.YtcjolkgjhcdhcaaGreatDoor

set_option maxRecDepth 4000
set_option maxHeartbeats 2000000
namespace Go.Proofs.YtcjolkgjhcdhcaaGreatDoor
open Go Go.Abs Go.Cw
def b26a:qac:=⟨#[97]⟩
def b26k:qac:=⟨#[107]⟩
def b26n:qac:=⟨#[110]⟩
def b26s:qac:=⟨#[115,116,111,114,101]⟩
def store26:Proc:=⟨b26s,[⟨b26k,2⟩,⟨b26n,1⟩],[.mk 3 em 0 (.mk 3 0 b26k []) (.mk 3 0 b26n []) [] []]⟩
def call26 (id n:Int):Txn:=⟨id,b26s,[⟨2,0,b26a⟩,⟨1,n,em⟩],⟨false,[],[b26a]⟩,1⟩
def f26w:Foot:=⟨false,[],[b26a]⟩
def f26r:Foot:=⟨false,[b26a],[]⟩
def f26t:Foot:=⟨true,[],[]⟩
theorem c_law26_store:APure Tryz.prog 29 [] (.agg store26.c):=by
 refine qaj Tryz.func29 Tryz.ntmps29 rfl (by kernel_rfl) rfl rfl fun E h hN hh hu hb=>?_;simp -dsimp [go_sem,hN];exact ⟨rfl,rfl,rfl⟩
theorem c_law26_call (id n:Int):APure Tryz.prog 30 [I id,I n] (.agg (call26 id n).c):=by
 refine qaj Tryz.func30 Tryz.ntmps30 rfl (by kernel_rfl) rfl rfl fun E h hN hh hu hb=>?_;simp -dsimp [go_sem,hN];rfl
def M26a:List (List Nat):=[[],[],[0,1]]
def M26b:List (List Nat):=[[],[0],[]]
theorem ex26a:qbn [f26w,f26w,f26r] 3=M26a:=by kernel_rfl
theorem ex26b:qbn [f26w,f26t,f26w] 3=M26b:=by kernel_rfl
def l26:List Txn:=[call26 1 5,call26 2 7]
def E26a:Eff:=⟨1,0,[],[],[b26a],[⟨b26a,⟨1,5,em⟩⟩],em,1⟩
def E26b:Eff:=⟨1,0,[],[],[b26a],[⟨b26a,⟨1,7,em⟩⟩],em,1⟩
def st26:List Pr:=[⟨b26a,⟨1,7,em⟩⟩]
theorem ex26m:mvN qb3 [store26] [] l26 [1,0] 2=([E26a,E26b],[true,true],[1,0]):=by kernel_rfl
theorem ex26v:visS [E26a,E26b] [true,true] [] 2=st26:=by kernel_rfl
theorem ex26e:earlyP [f26w,f26w] [1,0]=1:=by kernel_rfl
theorem ex26s:qde eqP st26 st26=true:=by kernel_rfl
theorem batch26:BatchIn qb3 [store26] l26:=by
 refine ⟨plain_itoa,?_,?_⟩
 ·
  intro p hp t ht;simp only [List.mem_singleton] at hp;subst hp;simp only [store26,List.mem_singleton] at ht;subst ht;have hz:i64 0:=⟨by decide,by decide⟩
  have hk:rngX (.mk 3 0 b26k []):=(rngX_iff _).2 ⟨⟨hz,by decide⟩,by simp [Ex.args]⟩;have hn:rngX (.mk 3 0 b26n []):=(rngX_iff _).2 ⟨⟨hz,by decide⟩,by simp [Ex.args]⟩;exact (rngS_iff _).2 ⟨hk,hn,by simp [St.body],by simp [St.els]⟩
 ·
  intro t ht v hv;simp only [l26,List.mem_cons,List.not_mem_nil,or_false] at ht;have h5:i64 5:=⟨by decide,by decide⟩
  have h7:i64 7:=⟨by decide,by decide⟩
  have h0:i64 0:=⟨by decide,by decide⟩
  rcases ht with rfl | rfl<;>simp only [call26,List.mem_cons,List.not_mem_nil,or_false] at hv<;>rcases hv with rfl | rfl
  · exact ⟨h0,by decide⟩
  · exact ⟨h5,by decide⟩
  · exact ⟨h0,by decide⟩
  · exact ⟨h7,by decide⟩
theorem c_intsR (l:List Nat):APure Tryz.prog 14 [.slice (l.map nR),.slice (l.map nR)] (Bo true):=by
 have:=c_ref23_Ints l l
 rwa [decide_eq_true rfl] at this
section
variable {tT:TypeId} {tx:Nat×Nat} {g:Nat}
theorem c_law26_works (h:qab) (hg:h[g]?=some (tabO tT tx)):ACalls Tryz.prog 11 [] h fun r h'=>r=.ret (Bo true)∧h'=h:=by
 refine qav Tryz.func11 Tryz.ntmps11 rfl (by kernel_rfl) rfl fun E hN hh hu hb hb' hua=>?_;have hgl:g<h.length:=(List.getElem?_eq_some_iff.1 hg).1;have hg':∀ l:qab,(h++l)[g]?=some (tabO tT tx):=fun l=>by rw [List.getElem?_append_left hgl];exact hg
 have hround:=fun H hH=>c_mv_Round (g:=g) (tT:=tT) (tx:=tx) [store26] [] l26 [1,0] H hH batch26 (by intro q hq;cases hq) (by simp [l26]);simp only [show l26.length=2 from rfl,ex26m,ex26v] at hround;have d1:=c_mv_Deps [f26w,f26w,f26r];have d2:=c_mv_Deps [f26w,f26t,f26w];rw [show qbn [f26w,f26w,f26r] [f26w,f26w,f26r].length=M26a from ex26a] at d1;rw [show qbn [f26w,f26t,f26w] [f26w,f26t,f26w].length=M26b from ex26b] at d2;have e1:=c_mv_Early [f26w,f26w] [1,0] (by simp);rw [ex26e] at e1;have hsm:=c_ref06_Same st26 st26;rw [ex26s] at hsm;simp -dsimp [go_sem,hN];refine qaa d1 ?_;simp -dsimp [go_sem,hN];refine qaa d2 ?_;simp -dsimp [go_sem,hN];refine qaa c_law26_store ?_;simp -dsimp [go_sem,hN];refine qaa (c_law26_call 1 5) ?_;simp -dsimp [go_sem,hN];refine qaa (c_law26_call 2 7) ?_;simp -dsimp [go_sem,hN,Txn.c,call26];refine qan (hround _ (hg' _)) ?_;rintro r h' ⟨rfl,he⟩;rw [he];simp -dsimp [go_sem,hN,M26a,M26b,lR];refine qah 56 mixed (by kernel_rfl) (by kernel_rfl) ?_;simp -dsimp [go_sem,hN,M26a,M26b,lR,nR];refine qay (c_intsR [0,1]) (by simp) ?_;simp -dsimp [go_sem,hN,M26a,M26b,lR,nR];refine qay (c_intsR [0]) (by simp) ?_;simp -dsimp [go_sem,hN,M26a,M26b,lR,nR];refine qay (c_intsR [1,0]) (by simp) ?_;simp -dsimp [go_sem,hN];refine qay hsm (by simp) ?_;simp -dsimp [go_sem,hN,E26a,E26b,Eff.c];refine qae e1 (by simp) ?_;simp -dsimp [go_sem,hN];exact ⟨_,.refl _,h,by simp [go_sem],by simp [go_sem],by simp,by simp [hu,go_sem],rfl,rfl⟩
end
end Go.Proofs.YtcjolkgjhcdhcaaGreatDoor

set_option maxRecDepth 8000
namespace Go.Proofs.YtcjolkgjhcdhcaaGreatDoor
open Go Go.Abs Go.Cw
section
variable {H:Type} {enc:TypeId×Value→H} {w:World}
theorem bulk_part {d:DataW H} {l:List (DataW H)} (h:d∈l):Rows.uptoBulk d≤Rows.uptoBulkAll l:=by
 induction l with
 | nil=>cases h
 | cons x r ih =>
  simp only [Rows.uptoBulkAll];rcases List.mem_cons.1 h with rfl | e
  · omega
  · have:=ih e;omega
theorem bulk_one (d:DataW H):1≤Rows.uptoBulk d:=by
 cases d with
 | lit l=>cases l<;>simp [Rows.uptoBulk]
 | nil=>simp [Rows.uptoBulk]
 | ptr d=>simp [Rows.uptoBulk]
 | slice elems spare=>simp [Rows.uptoBulk]
 | agg parts=>simp [Rows.uptoBulk]
 | iface t d=>simp [Rows.uptoBulk]
 | map entries=>simp [Rows.uptoBulk]
 | held h=>simp [Rows.uptoBulk]
theorem bulk_len (l:List (DataW H)):l.length≤Rows.uptoBulkAll l:=by
 induction l with
 | nil=>simp [Rows.uptoBulkAll]
 | cons x r ih=>have:=bulk_one x;simp only [Rows.uptoBulkAll,List.length_cons];omega
theorem bulkB:Bulk (H:=H) Rows.uptoBulk where
 str:=fun s=>by simp [Rows.uptoBulk]
 len:=fun e s=>by have:=bulk_len e;simp only [Rows.uptoBulk];omega
 sl:=fun e s x hx=>by have:=bulk_part hx;simp only [Rows.uptoBulk];omega
 agg:=fun ps x hx=>by have:=bulk_part hx;simp only [Rows.uptoBulk];omega
abbrev UB:Nat:=1048576
variable (enc w) in
abbrev RD (n:Nat) (t:TypeId) (Q:List AV→Prop):Prop:=Rd enc Tryz.prog w Rows.uptoBulk UB n t Q
theorem ub_le:UB≤68719476736:=by decide
def rOf {α:Type} (c:α→List AV) (good:α→Prop) (xs:List AV):Prop:=∃ a,xs=c a∧good a
def gStr (s:qac):Prop:=s.size≤UB
def gSl {α:Type} (good:α→Prop) (l:List α):Prop:=l.length≤UB∧∀ a∈l,good a
def qOf {α:Type} (c:α→List AV) (good:α→Prop) (xs:List AV):Prop:=rOf (fun l:List α=>[.slice (l.map c)]) (gSl good) xs
theorem rd_of {n:Nat} {t e:TypeId} (ht:Tryz.prog.underlying t=some (.slice e)) {sz:Nat} (hsz:Tryz.prog.cellsOf e=sz) (h0:0<sz) {α:Type} {c:α→List AV} {good:α→Prop} (hl:∀ a,(c a).length=sz) (he:RD enc w n e (rOf c good)):RD enc w n t (qOf c good):=by
 refine (rd_slice bulkB ub_le ht hsz h0 (by rintro _ ⟨a,rfl,_⟩;exact hl a) he).mono ?_;rintro _ ⟨rows,rfl,hlen,hq⟩;obtain ⟨l,rfl,hg⟩:=rows_list hq;exact ⟨l,rfl,by simpa using hlen,hg⟩
theorem len_of {α:Type} {c:α→List AV} {good:α→Prop}:∀ xs,qOf c good xs→xs.length=1:=by rintro _ ⟨l,rfl,_⟩;rfl
theorem rd_I {n:Nat}:RD enc w n 3 (qInt .i64):=rd_int (by decide) Tryz.underlying3
theorem rd_I64 {n:Nat}:RD enc w n 2 (qInt .i64):=rd_int (by decide) Tryz.underlying2
theorem rd_S {n:Nat}:RD enc w n 9 (qStr UB):=rd_str bulkB ub_le Tryz.underlying9
theorem rd_B {n:Nat}:RD enc w n 4 qBool:=rd_bool Tryz.underlying4
theorem i64_of {z:Int} (h:IntKind.i64.min≤z∧z≤IntKind.i64.max):i64 z:=⟨h.1,h.2⟩
theorem rd_V:∀ {n:Nat},RD enc w n 71 (rOf V.c qdt)
 | 0=>Rd.zero
 | n+1=>by
  refine (qef (Qs:=[qInt .i64,qInt .i64,qStr UB]) bulkB Tryz.underlying71 ?_).mono ?_
  ·
   simp only [Flds];exact ⟨(by first | rfl | trivial),1,by kernel_rfl,rd_I,len_int,(by first | rfl | trivial),1,by kernel_rfl,rd_I64,len_int,(by first | rfl | trivial),1,by kernel_rfl,rd_S,len_str,by first | kernel_rfl | trivial⟩
  ·
   rintro _ ⟨ps,hp0,rfl⟩;obtain ⟨_,_,rfl,⟨k,rfl,_⟩,hp1⟩:=qar hp0;obtain ⟨_,_,rfl,⟨z,rfl,hz⟩,hp2⟩:=qar hp1;obtain ⟨_,_,rfl,⟨s,rfl,hs⟩,hp3⟩:=qar hp2;obtain rfl:=qeg hp3;exact ⟨⟨k,z,s⟩,rfl,i64_of hz,by show s.size≤_;unfold UB at hs;omega⟩
def gP (p:Pr):Prop:=p.key.size≤UB∧qdt p.v
theorem rd_P:∀ {n:Nat},RD enc w n 73 (rOf Pr.c gP)
 | 0=>Rd.zero
 | n+1=>by
  refine (qef (Qs:=[qStr UB,rOf V.c qdt]) bulkB Tryz.underlying73 ?_).mono ?_
  ·
   simp only [Flds];exact ⟨(by first | rfl | trivial),1,by kernel_rfl,rd_S,len_str,(by first | rfl | trivial),3,by kernel_rfl,rd_V,by rintro _ ⟨v,rfl,_⟩;rfl,by first | kernel_rfl | trivial⟩
  ·
   rintro _ ⟨ps,hp0,rfl⟩;obtain ⟨_,_,rfl,⟨k,rfl,hk⟩,hp1⟩:=qar hp0;obtain ⟨_,_,rfl,⟨v,rfl,hv⟩,hp2⟩:=qar hp1;obtain rfl:=qeg hp2;exact ⟨⟨k,v⟩,rfl,hk,hv⟩
theorem rd_Vs {n:Nat}:RD enc w n 34 (qOf V.c qdt):=rd_of Tryz.underlying34 (sz:=3) (by kernel_rfl) (by decide) (fun _=>rfl) rd_V
theorem rd_Ps {n:Nat}:RD enc w n 31 (qOf Pr.c gP):=rd_of Tryz.underlying31 (sz:=4) (by kernel_rfl) (by decide) (fun _=>rfl) rd_P
theorem rd_Ss {n:Nat}:RD enc w n 37 (qOf qbd gStr):=rd_of Tryz.underlying37 (sz:=1) (by kernel_rfl) (by decide) (fun _=>rfl) (rd_S.mono (by rintro _ ⟨s,rfl,hs⟩;exact ⟨s,rfl,hs⟩))
theorem rd_E:∀ (n:Nat),RD enc w n 96 (rOf Ex.c rngX)
 | 0=>Rd.zero
 | n+1=>by
  have hs:RD enc w n 94 (qOf Ex.c rngX):=rd_of Tryz.underlying94 (sz:=4) (by kernel_rfl) (by decide) (fun e=>by rw [Ex.c_eq];rfl) (rd_E n);refine (qef (Qs:=[qInt .i64,qInt .i64,qStr UB,qOf Ex.c rngX]) bulkB Tryz.underlying96 ?_).mono ?_
  ·
   simp only [Flds];exact ⟨(by first | rfl | trivial),1,by kernel_rfl,rd_I,len_int,(by first | rfl | trivial),1,by kernel_rfl,rd_I64,len_int,(by first | rfl | trivial),1,by kernel_rfl,rd_S,len_str,(by first | rfl | trivial),1,by kernel_rfl,hs,len_of,by first | kernel_rfl | trivial⟩
  ·
   rintro _ ⟨ps,hp0,rfl⟩;obtain ⟨_,_,rfl,⟨k,rfl,_⟩,hp1⟩:=qar hp0;obtain ⟨_,_,rfl,⟨z,rfl,hz⟩,hp2⟩:=qar hp1;obtain ⟨_,_,rfl,⟨s,rfl,hs⟩,hp3⟩:=qar hp2;obtain ⟨_,_,rfl,⟨l,rfl,hl⟩,hp4⟩:=qar hp3;obtain rfl:=qeg hp4;refine ⟨.mk k z s l,by rw [Ex.c_eq];rfl,(rngX_iff _).2 ⟨⟨i64_of hz,by show s.size≤_;unfold UB at hs;omega⟩,hl.2⟩⟩
theorem rd_T:∀ (n:Nat),RD enc w n 100 (rOf St.c rngS)
 | 0=>Rd.zero
 | n+1=>by
  have hs:RD enc w n 63 (qOf St.c rngS):=rd_of Tryz.underlying63 (sz:=13) (by kernel_rfl) (by decide) (fun e=>by rw [St.c_eq];rfl) (rd_T n);refine (qef (Qs:=[qInt .i64,qStr UB,qInt .i64,rOf Ex.c rngX,rOf Ex.c rngX,qOf St.c rngS,qOf St.c rngS]) bulkB Tryz.underlying100 ?_).mono ?_
  ·
   simp only [Flds];exact ⟨(by first | rfl | trivial),1,by kernel_rfl,rd_I,len_int,(by first | rfl | trivial),1,by kernel_rfl,rd_S,len_str,(by first | rfl | trivial),1,by kernel_rfl,rd_I,len_int,(by first | rfl | trivial),4,by kernel_rfl,rd_E n,by rintro _ ⟨e,rfl,_⟩;rw [Ex.c_eq];rfl,(by first | rfl | trivial),4,by kernel_rfl,rd_E n,by rintro _ ⟨e,rfl,_⟩;rw [Ex.c_eq];rfl,(by first | rfl | trivial),1,by kernel_rfl,hs,len_of,(by first | rfl | trivial),1,by kernel_rfl,hs,len_of,by first | kernel_rfl | trivial⟩
  ·
   rintro _ ⟨ps,hp0,rfl⟩;obtain ⟨_,_,rfl,⟨k,rfl,_⟩,hp1⟩:=qar hp0;obtain ⟨_,_,rfl,⟨s,rfl,hs⟩,hp2⟩:=qar hp1;obtain ⟨_,_,rfl,⟨m,rfl,_⟩,hp3⟩:=qar hp2;obtain ⟨_,_,rfl,⟨a,rfl,ha⟩,hp4⟩:=qar hp3;obtain ⟨_,_,rfl,⟨b,rfl,hb⟩,hp5⟩:=qar hp4;obtain ⟨_,_,rfl,⟨l,rfl,hl⟩,hp6⟩:=qar hp5;obtain ⟨_,_,rfl,⟨l',rfl,hl'⟩,hp7⟩:=qar hp6;obtain rfl:=qeg hp7;refine ⟨.mk k s m a b l l',?_,(rngS_iff _).2 ⟨ha,hb,hl.2,hl'.2⟩⟩;simp [St.c,St.cl_map]
theorem rd_Ts {n:Nat}:RD enc w n 63 (qOf St.c rngS):=rd_of Tryz.underlying63 (sz:=13) (by kernel_rfl) (by decide) (fun e=>by rw [St.c_eq];rfl) (rd_T n)
theorem rd_M:∀ {n:Nat},RD enc w n 98 (rOf Param.c fun p=>gStr p.name)
 | 0=>Rd.zero
 | n+1=>by
  refine (qef (Qs:=[qStr UB,qInt .i64]) bulkB Tryz.underlying98 ?_).mono ?_
  ·
   simp only [Flds];exact ⟨(by first | rfl | trivial),1,by kernel_rfl,rd_S,len_str,(by first | rfl | trivial),1,by kernel_rfl,rd_I,len_int,by first | kernel_rfl | trivial⟩
  ·
   rintro _ ⟨ps,hp0,rfl⟩;obtain ⟨_,_,rfl,⟨s,rfl,hs⟩,hp1⟩:=qar hp0;obtain ⟨_,_,rfl,⟨k,rfl,_⟩,hp2⟩:=qar hp1;obtain rfl:=qeg hp2;exact ⟨⟨s,k⟩,rfl,hs⟩
theorem rd_Ms {n:Nat}:RD enc w n 62 (qOf Param.c fun p=>gStr p.name):=rd_of Tryz.underlying62 (sz:=2) (by kernel_rfl) (by decide) (fun _=>rfl) rd_M
def gProc (p:Proc):Prop:=gStr p.name∧gSl (fun x:Param=>gStr x.name) p.params∧gSl rngS p.body
theorem rd_Proc:∀ {n:Nat},RD enc w n 65 (rOf Proc.c gProc)
 | 0=>Rd.zero
 | n+1=>by
  refine (qef (Qs:=[qStr UB,qOf Param.c fun p=>gStr p.name,qOf St.c rngS]) bulkB Tryz.underlying65 ?_).mono ?_
  ·
   simp only [Flds];exact ⟨(by first | rfl | trivial),1,by kernel_rfl,rd_S,len_str,(by first | rfl | trivial),1,by kernel_rfl,rd_Ms,len_of,(by first | rfl | trivial),1,by kernel_rfl,rd_Ts,len_of,by first | kernel_rfl | trivial⟩
  ·
   rintro _ ⟨ps,hp0,rfl⟩;obtain ⟨_,_,rfl,⟨s,rfl,hs⟩,hp1⟩:=qar hp0;obtain ⟨_,_,rfl,⟨l,rfl,hl⟩,hp2⟩:=qar hp1;obtain ⟨_,_,rfl,⟨b,rfl,hb⟩,hp3⟩:=qar hp2;obtain rfl:=qeg hp3;exact ⟨⟨s,l,b⟩,rfl,hs,hl,hb⟩
def gFoot (f:Foot):Prop:=gSl gStr f.reads∧gSl gStr f.writes
theorem rd_Foot:∀ {n:Nat},RD enc w n 58 (rOf Foot.c gFoot)
 | 0=>Rd.zero
 | n+1=>by
  refine (qef (Qs:=[qBool,qOf qbd gStr,qOf qbd gStr]) bulkB Tryz.underlying58 ?_).mono ?_
  ·
   simp only [Flds];exact ⟨(by first | rfl | trivial),1,by kernel_rfl,rd_B,len_bool,(by first | rfl | trivial),1,by kernel_rfl,rd_Ss,len_of,(by first | rfl | trivial),1,by kernel_rfl,rd_Ss,len_of,by first | kernel_rfl | trivial⟩
  ·
   rintro _ ⟨ps,hp0,rfl⟩;obtain ⟨_,_,rfl,⟨b,rfl⟩,hp1⟩:=qar hp0;obtain ⟨_,_,rfl,⟨l,rfl,hl⟩,hp2⟩:=qar hp1;obtain ⟨_,_,rfl,⟨l',rfl,hl'⟩,hp3⟩:=qar hp2;obtain rfl:=qeg hp3;exact ⟨⟨b,l,l'⟩,rfl,hl,hl'⟩
structure gEff (e:Eff):Prop where
 out:gSl qdt e.out
 reads:gSl gStr e.reads
 puts:gSl gStr e.puts
 writes:gSl gP e.writes
 miss:gStr e.miss
end
end Go.Proofs.YtcjolkgjhcdhcaaGreatDoor

set_option maxRecDepth 8000
namespace Go.Proofs.YtcjolkgjhcdhcaaGreatDoor
open Go Go.Abs Go.Cw
section
variable {H:Type} {enc:TypeId×Value→H} {w:World}
structure gTxn (t:Txn):Prop where
 id:i64 t.id
 proc:gStr t.proc
 args:gSl qdt t.args
 ft:gFoot t.ft
 att:i64 t.att
theorem rd_Txn:∀ {n:Nat},RD enc w n 68 (rOf Txn.c gTxn)
 | 0=>Rd.zero
 | n+1=>by
  refine (qef (Qs:=[qInt .i64,qStr UB,qOf V.c qdt,rOf Foot.c gFoot,qInt .i64]) bulkB Tryz.underlying68 ?_).mono ?_
  ·
   simp only [Flds];exact ⟨(by first | rfl | trivial),1,by kernel_rfl,rd_I64,len_int,(by first | rfl | trivial),1,by kernel_rfl,rd_S,len_str,(by first | rfl | trivial),1,by kernel_rfl,rd_Vs,len_of,(by first | rfl | trivial),3,by kernel_rfl,rd_Foot,by rintro _ ⟨v,rfl,_⟩;rfl,(by first | rfl | trivial),1,by kernel_rfl,rd_I,len_int,by first | kernel_rfl | trivial⟩
  ·
   rintro _ ⟨ps,hp0,rfl⟩;obtain ⟨_,_,rfl,⟨k,rfl,hk⟩,hp1⟩:=qar hp0;obtain ⟨_,_,rfl,⟨s,rfl,hs⟩,hp2⟩:=qar hp1;obtain ⟨_,_,rfl,⟨l,rfl,hl⟩,hp3⟩:=qar hp2;obtain ⟨_,_,rfl,⟨f,rfl,hf⟩,hp4⟩:=qar hp3;obtain ⟨_,_,rfl,⟨z,rfl,hz⟩,hp5⟩:=qar hp4;obtain rfl:=qeg hp5;exact ⟨⟨k,s,l,f,z⟩,rfl,i64_of hk,hs,hl,hf,i64_of hz⟩
theorem rd_Txns {n:Nat}:RD enc w n 44 (qOf Txn.c gTxn):=rd_of Tryz.underlying44 (sz:=7) (by kernel_rfl) (by decide) (fun _=>rfl) rd_Txn
theorem rd_Procs {n:Nat}:RD enc w n 43 (qOf Proc.c gProc):=rd_of Tryz.underlying43 (sz:=3) (by kernel_rfl) (by decide) (fun _=>rfl) rd_Proc
theorem batchIn_of {procs:List Proc} {l:List Txn} (hp:gSl gProc procs) (hl:gSl gTxn l):BatchIn qb3 procs l:=⟨plain_itoa,fun p h=>(hp.2 p h).2.2.2,fun t h=>(hl.2 t h).args.2⟩
theorem rngL_of {s:List Pr} (h:gSl gP s):rngL s:=fun q hq=>(h.2 q hq).2
def gBatch (b:List Proc×List Pr×List Txn):Prop:=gSl gProc b.1∧gSl gP b.2.1∧gSl gTxn b.2.2
end
end Go.Proofs.YtcjolkgjhcdhcaaGreatDoor

set_option maxRecDepth 8000
namespace Go.Proofs.YtcjolkgjhcdhcaaGreatDoor
open Go Go.Abs Go.Cw Go.ChangeShapes Go.WideShapes Go.ChangeAt Go.RowKit
theorem laidOut:laidOutB Tryz.prog=true:=by kernel_rfl
theorem ownK:ownKnob Tryz.prog.godebug=none:=by kernel_rfl
abbrev laidL:List (String×DataW Unit):=[("math/bits.deBruijn32tab",Rows.laid_math_bits_deBruijn32tab),("math/bits.deBruijn64tab",Rows.laid_math_bits_deBruijn64tab),("internal/strconv.uint64pow10",Rows.laid_internal_strconv_uint64pow10)]
abbrev gTab:Nat:=1
theorem table {W:World} (h:laidMetH Tryz.prog laidL W):Lib.TabIs Tryz.prog W "internal/strconv.uint64pow10" .u64 Lib.pow10Tab :=
 Lib.tabIs_of_head (rest:=[]) (g:=gTab) (n:=20) (by kernel_rfl) (by kernel_rfl) Tryz.underlying294 Tryz.underlying198 (by kernel_rfl) (by kernel_rfl) (laidMet.tail (laidMet.tail (show laidMet Tryz.prog laidL W from h)))
theorem table_heap {W:World} (h:laidMetH Tryz.prog laidL W):∃ T x,W.heap[gTab]?=some (.cells tabV T x):=by
 have h1:=table h;unfold Lib.TabIs World.var? at h1
 rw [show Tryz.prog.globalNamed "internal/strconv.uint64pow10" = some gTab by kernel_rfl] at h1
 simp only [Option.bind_some] at h1;split at h1
 ·
  rename_i cs T x hx;cases h1;exact ⟨T,x,hx⟩
 · cases h1
theorem tab_u64:∀ (j:Nat) (v:Value),tabV[j]?=some v→∃ n,v=.int .u64 n:=by
 intro j v hv;unfold tabV at hv;have:(Lib.pow10Tab.map fun z=>Value.int .u64 z)[j]?=some v:=by simpa using hv
 rw [List.getElem?_map,Option.map_eq_some_iff] at this;obtain ⟨z,_,rfl⟩:=this;exact ⟨z,rfl⟩
def putTab (zs:List Value):Obj→Obj
 | .cells _ t fr=>.cells zs.toArray t fr
 | o=>o
def tabVals (d:DataW Unit):List Value:=match d with
 | .agg ps=>ps.map fun | .lit (.int k n)=>.int k n | _=>undef
 | _=>[]
noncomputable def laidWorld (os:Os):World :=
 { World.holding Tryz.prog os ⟨#[],#[],[]⟩ with heap:=(((World.holding Tryz.prog os ⟨#[],#[],[]⟩).heap.modify gTab (putTab (tabVals Rows.laid_internal_strconv_uint64pow10))).modify 2 (putTab (tabVals Rows.laid_math_bits_deBruijn32tab))).modify 3 (putTab (tabVals Rows.laid_math_bits_deBruijn64tab)) }
section
variable {H:Type} {enc:TypeId×Value→H} {W:World} {base:Nat}
theorem okWide_struct {t:TypeId} {fs:Array Field} (ht:Tryz.prog.underlying t=some (.struct fs)) {v:Value} (h:Value.okWide Tryz.prog W .any base t v):∃ cs,v=.agg cs:=by
 unfold Value.okWide at h;rw [ht] at h;obtain ⟨cs,rfl,_⟩:=h;exact ⟨cs,rfl⟩
theorem okWide_slice {t e:TypeId} (ht:Tryz.prog.underlying t=some (.slice e)) {v:Value} (h:Value.okWide Tryz.prog W .any base t v):v.cells = #[v]:=by
 unfold Value.okWide at h;rw [ht] at h;simp only at h;unfold Cell.okWide at h;rw [ht] at h;cases v<;>first | rfl | skip
 unfold Cell.ok at h;rw [ht] at h;exact h.elim
theorem arg_struct {t:TypeId} {fs:Array Field} (ht:Tryz.prog.underlying t=some (.struct fs)) {v:Value} {d:DataW H} {ps:List MemPlace} (hv:Value.okWide Tryz.prog W .any base t v) (h:DataW.Trod enc Tryz.prog W 0 (fun _=>true) true t v d ps)
  {α:Type} {c:α→List AV} {good:α→Prop} (hr:∀ n,RD enc W n t (rOf c good)) (hb:Rows.uptoBulk d≤UB):∃ a,Rel (ctxR W gTab) (.agg (c a)) v∧good a:=by
 obtain ⟨cs,rfl⟩:=okWide_struct ht hv;obtain ⟨fuel,hf⟩:=h;obtain ⟨_,hd,a,rfl,hg⟩:=hr fuel fuel _ _ _ (Nat.le_refl _) hf hb;exact ⟨a,rel_agg hd,hg⟩
theorem arg_slice {t e:TypeId} (ht:Tryz.prog.underlying t=some (.slice e)) {v:Value} {d:DataW H} {ps:List MemPlace} (hv:Value.okWide Tryz.prog W .any base t v) (h:DataW.Trod enc Tryz.prog W 0 (fun _=>true) true t v d ps)
  {α:Type} {c:α→List AV} {good:α→Prop} (hr:∀ n,RD enc W n t (qOf c good)) (hb:Rows.uptoBulk d≤UB):∃ l:List α,Rel (ctxR W gTab) (.slice (l.map c)) v∧gSl good l:=by
 obtain ⟨fuel,hf⟩:=h;rw [okWide_slice ht hv] at hf;obtain ⟨_,hd,l,rfl,hg⟩:=hr fuel fuel _ _ _ (Nat.le_refl _) hf hb;exact ⟨l,rel_one hd,hg⟩
end
theorem pLaid:laidOutB Tryz.pinned.checked.prog=true:=by kernel_rfl
theorem pMaps:mapsRowed Tryz.pinned.checked.prog=true:=by kernel_rfl
theorem pHeard:Tryz.pinned.checked.prog.stopsHeard=true:=by kernel_rfl
theorem pEnter:Tryz.pinned.checked.prog.mayEnter=true:=by kernel_rfl
end Go.Proofs.YtcjolkgjhcdhcaaGreatDoor

set_option maxRecDepth 8000
namespace Go.Proofs.YtcjolkgjhcdhcaaGreatDoor
open Go Go.Abs Go.Cw
section
variable {H:Type} {enc:TypeId×Value→H} {w:World} {base:Nat}
def batM (b:List Proc×List Pr×List Txn):List AV:=[.slice (b.1.map Proc.c),.slice (b.2.1.map Pr.c),.slice (b.2.2.map Txn.c)]
theorem rd_Ints {n:Nat}:RD enc w n 28 (qOf iRow i64):=rd_of Tryz.underlying28 (sz:=1) (by kernel_rfl) (by decide) (fun _=>rfl) (rd_I.mono (by rintro _ ⟨z,rfl,h1,h2⟩;exact ⟨z,rfl,h1,h2⟩))
theorem rd_Batch26:∀ {n:Nat},RD enc w n 46 (rOf batM gBatch)
 | 0=>Rd.zero
 | n+1=>by
  refine (qef (Qs:=[qOf Proc.c gProc,qOf Pr.c gP,qOf Txn.c gTxn]) bulkB Tryz.underlying46 ?_).mono ?_
  ·
   simp only [Flds];exact ⟨(by first | rfl | trivial),1,by kernel_rfl,rd_Procs,len_of,(by first | rfl | trivial),1,by kernel_rfl,rd_Ps,len_of,(by first | rfl | trivial),1,by kernel_rfl,rd_Txns,len_of,by first | kernel_rfl | trivial⟩
  ·
   rintro _ ⟨ps,hp0,rfl⟩;obtain ⟨_,_,rfl,⟨p,rfl,hp⟩,hp1⟩:=qar hp0;obtain ⟨_,_,rfl,⟨l,rfl,hl⟩,hp2⟩:=qar hp1;obtain ⟨_,_,rfl,⟨t,rfl,ht⟩,hp3⟩:=qar hp2;obtain rfl:=qeg hp3;exact ⟨(p,l,t),rfl,hp,hl,ht⟩
end
end Go.Proofs.YtcjolkgjhcdhcaaGreatDoor
