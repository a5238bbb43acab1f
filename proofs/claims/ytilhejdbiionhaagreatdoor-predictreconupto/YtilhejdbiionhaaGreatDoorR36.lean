/- Part 36 of a proof: W23, W24, W25, W26 -/
import Derived.Shelf.Small.Strs
import Derived.Shelf.Strconv.Itoa4
import Derived.Lib.ItoaLen
import Derived.Test.YtilhejdbiionhaaGreatDoorR13
import Derived.Test.YtilhejdbiionhaaGreatDoorR14
import Derived.Test.YtilhejdbiionhaaGreatDoorR16
import Derived.Test.YtilhejdbiionhaaGreatDoorR17
import Derived.Test.YtilhejdbiionhaaGreatDoorR21
import Derived.Test.YtilhejdbiionhaaGreatDoorR22
import Derived.Test.YtilhejdbiionhaaGreatDoorR23
import Derived.Test.YtilhejdbiionhaaGreatDoorR27
import Derived.Test.YtilhejdbiionhaaGreatDoorR31
import Derived.Test.YtilhejdbiionhaaGreatDoorR35
set_option linter.all false

set_option maxRecDepth 4000
set_option maxHeartbeats 4000000
namespace Go.Proofs.YtilhejdbiionhaaGreatDoor
open Go Go.Abs Go.Cw
attribute [local go_sem] mC
variable {C:Cfg} {tT:TypeId} {tx:Nat×Nat} {g m v o io ir ip:Nat} {K:MQ→qab} {n0:Nat}
theorem c_machine_unary(Y:MHs C tT tx g m v o io ir ip K n0)(hF:C.fmt=qbc)(s:MS)(op:Int)(a:V)(ha:ascS s.reads)(hl:s.reads.length+1≤68719476736)(hr:qcx a) :
  ACalls Tryz.prog 174 [.ptr m 0,I op,.agg a.c] (K s.q) fun r h'=>r=endV (unS C op a s).1∧h'=K (unS C op a s).2.q:=by
 refine qaz Tryz.func174 Tryz.ntmps174 rfl (by kernel_rfl) rfl fun E hN hh hu hb hb' hua=>?_;simp-dsimp[go_sem,hN,Y.len];refine cnd ?_ ?_<;>intro h0<;>simp at h0
 ·rw[unS,if_pos h0];simp-dsimp[go_sem,hN,Y.loc,Y.len];refine qaj (qdu (decide (a.k=1)) _) ?_;rintro r h' ⟨⟨hm,rfl⟩|⟨hm,rfl⟩,rfl⟩<;>simp at hm
  ·simp-dsimp[go_sem,hN,Y.loc,Y.len];refine qaa (c_num_Neg a.n) ?_;simp-dsimp[go_sem,hN,Y.loc,Y.len];refine qaj (qdb (qdn a.n) _) ?_;rintro r h' ⟨rfl,rfl⟩;rw[if_pos hm];cases qcs (qdn a.n)<;>simp-dsimp[go_sem,hN,endV,Y.loc1,Y.sloc1,Y.len]<;>exact⟨_,.refl _,K s.q,by simp[go_sem],by first|exact hwk.refl _|exact hwk.app0 _|simp[hwk.refl],by simp[Y.len],Y.und' _,by first|rfl|simp,by first|rfl|simp[MS.q]⟩
  ·simp-dsimp[go_sem,hN];rw[if_neg hm];exact⟨_,.refl _,K s.q,by simp[go_sem],by first|exact hwk.refl _|exact hwk.app0 _|simp[hwk.refl],by simp[Y.len],Y.und' _,by first|rfl|simp,by first|rfl|simp[MS.q]⟩
 simp-dsimp[go_sem,hN,Y.len];rw[unS,if_neg h0];refine cnd ?_ ?_<;>intro h1<;>simp at h1
 ·rw[if_pos h1];simp-dsimp[go_sem,hN,Y.loc,Y.len];refine qaj (qdu (decide (a.k=3)) _) ?_;rintro r h' ⟨⟨hm,rfl⟩|⟨hm,rfl⟩,rfl⟩<;>simp at hm
  ·simp-dsimp[go_sem,hN,Y.loc,Y.len];refine qaa (qbt (decide (a.n=0))) ?_;simp-dsimp[go_sem,hN,Y.loc1,Y.sloc1,Y.len];rw[if_pos hm];exact⟨_,.refl _,K s.q,by simp[go_sem],by first|exact hwk.refl _|exact hwk.app0 _|simp[hwk.refl],by simp[Y.len],Y.und' _,by first|rfl|simp,by first|rfl|simp[MS.q]⟩
  ·simp-dsimp[go_sem,hN];rw[if_neg hm];exact⟨_,.refl _,K s.q,by simp[go_sem],by first|exact hwk.refl _|exact hwk.app0 _|simp[hwk.refl],by simp[Y.len],Y.und' _,by first|rfl|simp,by first|rfl|simp[MS.q]⟩
 simp-dsimp[go_sem,hN,Y.len];rw[if_neg h1];refine cnd ?_ ?_<;>intro h2<;>simp at h2
 ·rw[if_pos h2];simp-dsimp[go_sem,hN,Y.loc,Y.len];refine qaj (qdu (decide (a.k=1)) _) ?_;rintro r h' ⟨⟨hm,rfl⟩|⟨hm,rfl⟩,rfl⟩<;>simp at hm
  ·simp-dsimp[go_sem,hN,Y.loc,Y.len];refine qaj (c_num_Format a.n hr.1 _ g (Y.lg' _ _)) ?_;rintro r h' ⟨rfl,rfl⟩;simp-dsimp[go_sem,hN];refine qaj (c_interp_text _ _) ?_;rintro r h' ⟨rfl,rfl⟩;rw[if_pos hm,hF];cases textS (qbc a.n)<;>simp-dsimp[go_sem,hN,endV,Y.loc1,Y.sloc1,Y.len]<;>exact⟨_,.refl _,K s.q,by simp[go_sem],by first|exact hwk.refl _|exact hwk.app0 _|simp[hwk.refl],by simp[Y.len],Y.und' _,by first|rfl|simp,by first|rfl|simp[MS.q]⟩
  ·simp-dsimp[go_sem,hN];rw[if_neg hm];exact⟨_,.refl _,K s.q,by simp[go_sem],by first|exact hwk.refl _|exact hwk.app0 _|simp[hwk.refl],by simp[Y.len],Y.und' _,by first|rfl|simp,by first|rfl|simp[MS.q]⟩
 simp-dsimp[go_sem,hN,Y.len];rw[if_neg h2];refine cnd ?_ ?_<;>intro h3<;>simp at h3
 ·rw[if_pos h3];simp-dsimp[go_sem,hN,Y.loc,Y.len];refine qaj (qdu (decide (a.k=2)) _) ?_;rintro r h' ⟨⟨hm,rfl⟩|⟨hm,rfl⟩,rfl⟩<;>simp at hm
  ·simp-dsimp[go_sem,hN,Y.loc,Y.len];refine qaa (qdx (a.s.size:Int)) ?_;simp-dsimp[go_sem,hN,Y.loc1,Y.sloc1,Y.len];rw[if_pos hm];exact⟨_,.refl _,K s.q,by simp[go_sem],by first|exact hwk.refl _|exact hwk.app0 _|simp[hwk.refl],by simp[Y.len],Y.und' _,by first|rfl|simp,by first|rfl|simp[MS.q]⟩
  ·simp-dsimp[go_sem,hN];rw[if_neg hm];exact⟨_,.refl _,K s.q,by simp[go_sem],by first|exact hwk.refl _|exact hwk.app0 _|simp[hwk.refl],by simp[Y.len],Y.und' _,by first|rfl|simp,by first|rfl|simp[MS.q]⟩
 simp-dsimp[go_sem,hN,Y.loc,Y.len];rw[if_neg h3];refine qaj (qdu (decide (a.k=2)) _) ?_;rintro r h' ⟨⟨hm,rfl⟩|⟨hm,rfl⟩,rfl⟩<;>simp at hm
 rotate_left
 ·simp-dsimp[go_sem,hN];rw[if_neg hm];exact⟨_,.refl _,K s.q,by simp[go_sem],by first|exact hwk.refl _|exact hwk.app0 _|simp[hwk.refl],by simp[Y.len],Y.und' _,by first|rfl|simp,by first|rfl|simp[MS.q]⟩
 rw[if_neg (by simpa using hm)];simp-dsimp[go_sem,hN,Y.loc,Y.len];refine qaj (c_machine_fetch (Y.ext [_,_] (by simp[hUnder,AObj.under,AV.under,qao])) s a.s ha hl) ?_;rintro r h' ⟨rfl,rfl⟩;rcases qc0 C a.s s with⟨z|w,s'⟩
 ·simp-dsimp[go_sem,hN,endV];exact⟨_,.refl _,K s'.q,by simp[go_sem],by first|exact hwk.refl _|exact hwk.app0 _|simp[hwk.refl],by simp[Y.len],Y.und' _,by first|rfl|simp,by first|rfl|simp[MS.q]⟩
 simp-dsimp[go_sem,hN,endV,Y.loc,Y.loc1,Y.len];simp only[gotS];refine cnd ?_ ?_<;>intro h4<;>simp at h4
 ·simp-dsimp[go_sem,hN,Y.loc2,Y.len];refine qaa (qbt (!decide (w.k=0))) ?_;simp-dsimp[go_sem,hN,Y.loc1,Y.sloc1,Y.len];rw[if_pos h4];exact⟨_,.refl _,K s'.q,by simp[go_sem],by first|exact hwk.refl _|exact hwk.app0 _|simp[hwk.refl],by simp[Y.len],Y.und' _,by first|rfl|simp,by first|rfl|simp[MS.q]⟩
 rw[if_neg h4];simp-dsimp[go_sem,hN,Y.loc2,Y.len];refine cnd ?_ ?_<;>intro h5<;>simp at h5
 ·simp-dsimp[go_sem,hN];refine qaa (qdx 0) ?_;simp-dsimp[go_sem,hN,Y.loc1,Y.sloc1,Y.len];rw[if_pos h5];exact⟨_,.refl _,K s'.q,by simp[go_sem],by first|exact hwk.refl _|exact hwk.app0 _|simp[hwk.refl],by simp[Y.len],Y.und' _,by first|rfl|simp,by first|rfl|simp[MS.q]⟩
 rw[if_neg (by rintro⟨k1,k2⟩;exact h5 k1 k2)];simp-dsimp[go_sem,hN,Y.loc2,Y.len];refine cnd ?_ ?_<;>intro h6<;>simp at h6
 ·simp-dsimp[go_sem,hN];refine qaj (c_interp_text em _) ?_;rintro r h' ⟨rfl,rfl⟩;rw[if_pos h6];cases textS em<;>simp-dsimp[go_sem,hN,endV,Y.loc1,Y.sloc1,Y.len]<;>exact⟨_,.refl _,K s'.q,by simp[go_sem],by first|exact hwk.refl _|exact hwk.app0 _|simp[hwk.refl],by simp[Y.len],Y.und' _,by first|rfl|simp,by first|rfl|simp[MS.q]⟩
 rw[if_neg (by rintro⟨k1,k2⟩;exact h6 k1 k2)];simp-dsimp[go_sem,hN,Y.loc2,Y.len];refine cnd ?_ ?_<;>intro h7<;>simp at h7
 ·simp-dsimp[go_sem,hN];refine cnd (fun _=>?_) (fun hx=>by simp[h7]at hx);simp-dsimp[go_sem,hN];refine qaj (qa7 1003 _) ?_;rintro r h' ⟨rfl,rfl⟩;simp-dsimp[go_sem,hN];rw[if_pos (.inl h7)];exact⟨_,.refl _,K s'.q,by simp[go_sem],by first|exact hwk.refl _|exact hwk.app0 _|simp[hwk.refl],by simp[Y.len],Y.und' _,by first|rfl|simp,by first|rfl|simp[MS.q]⟩
 simp-dsimp[go_sem,hN,Y.loc2,Y.len];refine cnd ?_ ?_<;>intro h8<;>simp at h8
 ·simp-dsimp[go_sem,hN];refine qaj (qa7 1003 _) ?_;rintro r h' ⟨rfl,rfl⟩;simp-dsimp[go_sem,hN];rw[if_pos (.inr h8)];exact⟨_,.refl _,K s'.q,by simp[go_sem],by first|exact hwk.refl _|exact hwk.app0 _|simp[hwk.refl],by simp[Y.len],Y.und' _,by first|rfl|simp,by first|rfl|simp[MS.q]⟩
 simp-dsimp[go_sem,hN,Y.loc2,Y.loc1,Y.sloc1,Y.len];rw[if_neg (fun k=>k.elim (fun k=>k.2 (h7 k.1)) (fun k=>k.2 (h8 k.1)))];exact⟨_,.refl _,K s'.q,by simp[go_sem],by first|exact hwk.refl _|exact hwk.app0 _|simp[hwk.refl],by simp[Y.len],Y.und' _,by first|rfl|simp,by first|rfl|simp[MS.q]⟩
end Go.Proofs.YtilhejdbiionhaaGreatDoor

set_option maxRecDepth 4000
set_option maxHeartbeats 4000000
namespace Go.Proofs.YtilhejdbiionhaaGreatDoor
open Go Go.Abs Go.Cw
attribute [local go_sem] mC
variable {C:Cfg} {tT:TypeId} {tx:Nat×Nat} {g m v o io ir ip:Nat}
theorem qbs(hF:C.fmt=qbc)(hC:rngC C){K:MQ→qab}{n0:Nat}(Y:MHs C tT tx g m v o io ir ip K n0)(s:MS)(e:Ex)(hX:rngX e)(hM:rngM s)(ha:ascS s.reads)(hl:s.reads.length+nodes e≤1000000000) :
  ACalls Tryz.prog 116 [.ptr m 0,.agg e.x] (K s.q) fun r h'=>r=endV (evE C e s).1∧h'=K (evE C e s).2.q:=by
 refine qaz Tryz.func116 Tryz.ntmps116 rfl (by kernel_rfl) rfl fun E hN hh hu hb hb' hua=>?_;have hX':=(qdd _).1 hX;simp[go_sem]at hb;rw[evE_eq];simp-dsimp[go_sem,hN,Y.len,Y.loc];refine cnd ?_ ?_<;>intro h1<;>simp at h1
 ·simp-dsimp[go_sem,hN,Y.len,Y.loc];refine qaa (qdx e.n) ?_;simp-dsimp[go_sem,hN,Y.len,Y.loc1,Y.sloc1];rw[if_pos h1];exact⟨_,.refl _,K s.q,by simp[go_sem],by first|exact hwk.refl _|exact hwk.app0 _|simp[hwk.refl],by simp[Y.len],Y.und' _,by first|rfl|simp,by first|rfl|simp[MS.q]⟩
 rw[if_neg h1];simp-dsimp[go_sem,hN,Y.len,Y.loc];refine cnd ?_ ?_<;>intro h2<;>simp at h2
 ·simp-dsimp[go_sem,hN,Y.len,Y.loc,Y.loc1,Y.sloc1];rw[if_pos h2];exact⟨_,.refl _,K s.q,by simp[go_sem],by first|exact hwk.refl _|exact hwk.app0 _|simp[hwk.refl],by simp[Y.len],Y.und' _,by first|rfl|simp,by first|rfl|simp[MS.q]⟩
 rw[if_neg h2];simp-dsimp[go_sem,hN,Y.len,Y.loc];refine cnd ?_ ?_<;>intro h3<;>simp at h3
 ·rw[if_pos h3];simp-dsimp[go_sem,hN];refine qa4 12 mixed (by kernel_rfl) ?_;rcases hk:qbg s.vars e.s with _|w
  ·simp-dsimp[go_sem,hN,Y.len,Y.loc,Y.loc1,Y.loc2,Y.sloc1,Y.sloc2,Y.lm',Y.lv',hk];refine⟨by have:=Y.hm;simp[sepD,List.zipIdx];exact .inl (by omega),?_⟩;refine qaj (qdu false _) ?_;rintro r h' ⟨⟨hm,rfl⟩|⟨hm,rfl⟩,rfl⟩<;>simp at hm;simp-dsimp[go_sem,hN];exact⟨_,.refl _,K s.q,by simp[go_sem],by first|exact hwk.refl _|exact hwk.app0 _|simp[hwk.refl],by simp[Y.len],Y.und' _,by first|rfl|simp,by first|rfl|simp[MS.q]⟩
  ·simp-dsimp[go_sem,hN,Y.len,Y.loc,Y.loc1,Y.loc2,Y.sloc1,Y.sloc2,Y.lm',Y.lv',hk];refine⟨by have:=Y.hm;simp[sepD,List.zipIdx];exact .inl (by omega),?_⟩;refine qaj (qdu true _) ?_;rintro r h' ⟨⟨hm,rfl⟩|⟨hm,rfl⟩,rfl⟩<;>simp at hm;simp-dsimp[go_sem,hN,Y.len,Y.loc,Y.loc1,Y.loc2,Y.sloc1,Y.sloc2];exact⟨_,.refl _,K s.q,by simp[go_sem],by first|exact hwk.refl _|exact hwk.app0 _|simp[hwk.refl],by simp[Y.len],Y.und' _,by first|rfl|simp,by first|rfl|simp[MS.q]⟩
 rw[if_neg h3];simp-dsimp[go_sem,hN,Y.len,Y.loc];have hn:=nodes_eq e;refine qap (α:=List V×MS) e.args.length (fun n a=>a.1.length=n∧(∀v∈a.1,qcx v)∧rngM a.2∧ascS a.2.reads∧a.2.reads.length+nodesL (e.args.drop n)+1≤1000000000 ∧
   evL C e.args s=match evL C (e.args.drop n) a.2 with
    |(.error z,m')=>(.error z,m')
    |(.ok r,m')=>(.ok (a.1++r),m'))
  (fun n a=>⟨[(0,.ptr m 0),(3,.ptr n0 0),(4,.ptr (n0+1) 0),(7,.own (n0+2) a.1.length),(38,.slice (e.args.map Ex.c)),(39,I e.args.length),(40,I n)],K a.2.q++[.cells e.x,.cells [I 0,I 0,S em],.arr 54 3 (a.1.map V.c)]⟩)
  ([],s) ⟨rfl,by simp,hM,ha,by simp;omega,?_⟩ ((nil_wk E _ 7 54 3 (by simp[go_sem])).trans ?_) ?_
 ·simp;rcases evL C e.args s with⟨z|r,m'⟩<;>rfl
 ·simp[Y.len];have:=Y.hm;exact(Wk.mk (by simp[hh,Y.len]) (by simp[go_sem]) (by simp[Y.und,Y.undA,Y.len,go_sem]) (by simp[go_sem,Y.len]<;>omega))
 rintro n ⟨acc,s'⟩ hn' ⟨hal,hav,hM',ha',hl',hI⟩;dsimp only at hal hav hM' ha' hl' hI;have hmn:=Y.hm;have hw:=qa2 hn' hb.2.1;simp-dsimp[go_sem,hN];refine cnd ?_ ?_<;>intro hc<;>simp at hc
 ·rw[qaf hc]at hI hl';rw[nodesL_cons]at hl';rw[evL]at hI;have hlt:SizeOf.sizeOf e.args[n]<SizeOf.sizeOf e:=Ex.arg_lt (List.getElem_mem hc);simp-dsimp[go_sem,hN,hc];refine qaj (qbs hF hC (Y.ext [_,_,_,_] (by simp[hUnder,AObj.under,AV.under,qao])) s' e.args[n] (hX'.2 _ (List.getElem_mem hc)) hM' ha' (by omega)) ?_;rintro r h' ⟨rfl,rfl⟩;have hok:=evE_ok hC e.args[n] s' (hX'.2 _ (List.getElem_mem hc)) hM' ha';rcases hE:evE C e.args[n] s' with⟨z|w,s2⟩
  ·rw[hE]at hI;simp only at hI;simp-dsimp[go_sem,hN,endV];rw[hI];exact⟨_,.refl _,K s2.q,by simp[go_sem],by first|exact hwk.refl _|exact hwk.app0 _|simp[hwk.refl],by simp[Y.len],Y.und' _,by first|rfl|simp,by first|rfl|simp[MS.q]⟩
  ·rw[hE]at hI hok;simp only at hI hok;simp-dsimp[go_sem,hN,endV,Y.len,Y.loc,Y.loc1,Y.loc2,Y.loc3,Y.sloc2,hw];refine⟨by omega,hc,acc++[w],s2,⟨by simp[hal],?_,hok.1.rng hM',hok.1.asc,by have:=hok.1.len;omega,?_⟩,(Wk.mk (by simp[hh,Y.len]) (by simp[go_sem]) (by simp[Y.und,Y.undA,Y.len,go_sem]) (by simp[go_sem,Y.len]<;>omega))⟩
   ·intro v hv;rcases List.mem_append.1 hv with hv|hv
    ·exact hav v hv
    ·simp at hv;subst hv;exact hok.2 _ rfl
   ·rw[hI];rcases evL C (e.args.drop (n+1)) s2 with⟨z|r,m'⟩<;>simp
 ·rw[List.drop_eq_nil_of_le (by omega),evL]at hI;simp only[List.append_nil]at hI;rw[hI];have hln:acc.length=e.args.length:=by omega
  simp-dsimp[go_sem,hN,Y.len,Y.loc2];refine cnd ?_ ?_<;>intro h4<;>simp at h4
  ·obtain⟨a,rfl⟩:∃a,acc=[a]:=by
    match acc,h4 with
    | [a],_=>exact⟨a,rfl⟩
    | [],h4=>simp at h4
    |_::_::_,h4=>simp at h4;omega
   simp-dsimp[go_sem,hN];refine qai 6 mixed (by kernel_rfl) (by kernel_rfl) ?_;simp-dsimp[go_sem,hN,Y.len,Y.loc,Y.loc1,Y.loc2,Y.sloc1]
   trace_state
   refine qaj (c_machine_unary (Y.ext [_,_,_] (by simp[hUnder,AObj.under,AV.under,qao])) hF s' e.op a ha' (by omega) (hav a (by simp))) ?_;rintro r h' ⟨rfl,rfl⟩;simp only[opS];rcases unS C e.op a s' with⟨z|w,s2⟩<;>simp-dsimp[go_sem,hN,endV,Y.len,Y.loc,Y.loc1,Y.loc2,Y.sloc1]<;>exact⟨_,.refl _,K s2.q,by simp[go_sem],by first|exact hwk.refl _|exact hwk.app0 _|simp[hwk.refl],by simp[Y.len],Y.und' _,by first|rfl|simp,by first|rfl|simp[MS.q]⟩
  simp-dsimp[go_sem,hN];refine cnd ?_ ?_<;>intro h5<;>simp at h5
  ·obtain⟨a,b,rfl⟩:∃a b,acc=[a,b]:=by
    match acc,h5 with
    | [a,b],_=>exact⟨a,b,rfl⟩
    | [],h5=>simp at h5
    | [_],h5=>simp at h5
    |_::_::_::_,h5=>simp at h5;omega
   have hra:=(hav a (by simp)).2;have hrb:=(hav b (by simp)).2;simp-dsimp[go_sem,hN];refine qai 8 mixed (by kernel_rfl) (by kernel_rfl) ?_;simp-dsimp[go_sem,hN,Y.len,Y.loc,Y.loc1,Y.loc2,Y.sloc1]
   trace_state
   refine qaj (c_interp_binary e.op a b _ (by omega)) ?_;rintro r h' ⟨rfl,rfl⟩;simp only[opS];cases binS e.op a b<;>simp-dsimp[go_sem,hN,endV,Y.len,Y.loc,Y.loc1,Y.loc2,Y.sloc1]<;>exact⟨_,.refl _,K s'.q,by simp[go_sem],by first|exact hwk.refl _|exact hwk.app0 _|simp[hwk.refl],by simp[Y.len],Y.und' _,by first|rfl|simp,by first|rfl|simp[MS.q]⟩
  simp-dsimp[go_sem,hN];refine qaj (qa7 1009 _) ?_;rintro r h' ⟨rfl,rfl⟩;simp-dsimp[go_sem,hN];have ho:opS C e.op acc s'=(.error (ab 1009),s'):=by
   match acc,h4,h5 with
   | [],_,_=>rfl
   | [_],h4,_=>simp at h4
   | [_,_],_,h5=>simp at h5
   |_::_::_::_,_,_=>rfl
  rw[ho];exact⟨_,.refl _,K s'.q,by simp[go_sem],by first|exact hwk.refl _|exact hwk.app0 _|simp[hwk.refl],by simp[Y.len],Y.und' _,by first|rfl|simp,by first|rfl|simp[MS.q]⟩
termination_by SizeOf.sizeOf e
end Go.Proofs.YtilhejdbiionhaaGreatDoor

set_option maxRecDepth 4000
set_option maxHeartbeats 4000000
namespace Go.Proofs.YtilhejdbiionhaaGreatDoor
open Go Go.Abs Go.Cw
attribute [local go_sem] mC
variable {C:Cfg} {tT:TypeId} {tx:Nat×Nat} {g m v o io ir ip:Nat}
def BlkSpec(C:Cfg)(tT:TypeId)(tx:Nat×Nat)(g m v o io ir ip:Nat)(l:List St):Prop :=
 ∀{K:MQ→qab} {n0:Nat} (_:MHs C tT tx g m v o io ir ip K n0) (s:MS),Inv 0 0 s→ACalls Tryz.prog 45 [.ptr m 0,.slice (l.map St.c)] (K s.q) fun r h'=>r=endU (blkI C l s).1∧h'=K (blkI C l s).2.q
theorem c_machine_loop(hF:C.fmt=qbc)(hC:rngC C){K:MQ→qab}{n0:Nat}(Y:MHs C tT tx g m v o io ir ip K n0)(t:St)(hop:t.op=6)(hG:goS t)(s:MS)(hI:Inv 8192 1 s)(hblk:BlkSpec C tT tx g m v o io ir ip t.body) :
  ACalls Tryz.prog 119 [.ptr m 0,.agg t.x] (K s.q) fun r h'=>r=endU (stI C t s).1∧h'=K (stI C t s).2.q:=by
 refine qaz Tryz.func119 Tryz.ntmps119 rfl (by kernel_rfl) rfl fun E hN hh hu hb hb' hua=>?_;obtain⟨op,name,mx,a,b,body,els⟩:=t;have hG':=(goS_iff _).1 hG;simp only[St.op,St.a,St.b,St.body,St.els]at hG' hop;obtain⟨hA,hB,hbody,hels⟩:=hG';subst hop;have hra:=(hA (by omega))
 have hrb:=(hB (by omega))
 have hmn:=Y.hm;rw[stI];simp only[show ¬((6:Int)=1∨(6:Int)=2)by omega,show ¬(6:Int)=3 by omega,show ¬(6:Int)=4 by omega,show ¬(6:Int)=5 by omega,if_false,if_true];have hst:=hI.st;have hrd:=hI.rd;simp-dsimp[go_sem,hN,Y.len,Y.loc];refine qaj (qbs hF hC (Y.ext [_] (by simp[hUnder,AObj.under,AV.under,qao])) s a hra.1 hI.rng hI.ar (by have:=hra.2;omega)) ?_;rintro r h' ⟨rfl,rfl⟩;have h1:=hI.eval hC (r:=4097) hra;rcases hE:evE C a s with⟨z|u,s1⟩
 ·simp-dsimp[go_sem,hN,endV,endU];exact⟨_,.refl _,K s1.q,by simp[go_sem],by first|exact hwk.refl _|exact hwk.app0 _|simp[hwk.refl],by simp[Y.len],Y.und' _,by first|rfl|simp,by first|rfl|simp[MS.q]⟩
 rw[hE]at h1;simp only at h1;dsimp only;have hrd1:=h1.1.rd;have hst1:=h1.1.st;simp-dsimp[go_sem,hN,endV,Y.len,Y.loc,Y.loc1];refine qaj (qbs hF hC (Y.ext [_,_] (by simp[hUnder,AObj.under,AV.under,qao])) s1 b hrb.1 h1.1.rng h1.1.ar (by have:=hrb.2;omega)) ?_;rintro r h' ⟨rfl,rfl⟩;have h2:=h1.1.eval hC (r:=2) hrb;rcases hE2:evE C b s1 with⟨z|w,s2⟩
 ·simp-dsimp[go_sem,hN,endV,endU];exact⟨_,.refl _,K s2.q,by simp[go_sem],by first|exact hwk.refl _|exact hwk.app0 _|simp[hwk.refl],by simp[Y.len],Y.und' _,by first|rfl|simp,by first|rfl|simp[MS.q]⟩
 rw[hE2]at h2;simp only at h2;dsimp only;simp-dsimp[go_sem,hN,endV,Y.len,Y.loc,Y.loc1,Y.loc2];refine qaj (qdu (decide (u.k=1)&&decide (w.k=1)) _) ?_;rintro r h' ⟨⟨hm,rfl⟩|⟨hm,rfl⟩,rfl⟩<;>simp at hm
 rotate_left
 ·simp-dsimp[go_sem,hN,endU];simp only[show ¬(u.k=1∧w.k=1)from fun k=>hm k.1 k.2,if_false];exact⟨_,.refl _,K s2.q,by simp[go_sem],by first|exact hwk.refl _|exact hwk.app0 _|simp[hwk.refl],by simp[Y.len],Y.und' _,by first|rfl|simp,by first|rfl|simp[MS.q]⟩
 simp only[hm.1,hm.2,and_self,if_true];simp-dsimp[go_sem,hN,Y.len,Y.loc,Y.loc1,Y.loc2]
 repeat refine⟨by grind,?_⟩
 refine cnd ?_ ?_<;>intro h0<;>simp at h0
 ·have h0':tooMany u.n w.n mx:=h0;simp-dsimp[go_sem,hN];refine qaj (qa7 1005 _) ?_;rintro r h' ⟨rfl,rfl⟩;simp-dsimp[go_sem,hN,endU,h0'];exact⟨_,.refl _,K s2.q,by simp[go_sem],by first|exact hwk.refl _|exact hwk.app0 _|simp[hwk.refl],by simp[Y.len],Y.und' _,by first|rfl|simp,by first|rfl|simp[MS.q]⟩
 have h0':¬tooMany u.n w.n mx:=fun k=>by have h3:=h0 k.1;have:=k.2;simp only[St.max]at h3;omega
 simp only[h0',if_false];simp-dsimp[go_sem,hN,Y.len,Y.loc,Y.loc1,Y.loc2];obtain⟨L0,hL0⟩:∃L0,L0=loopS (fun y=>blkI C body y) name w.n 16386 u.n s2:=⟨_,rfl⟩
 rw[←hL0];refine awp_loopM (α:=Nat×Int×MS) (fun x=>Cw.Inv 0 0 x.2.2∧i64 x.2.1∧(16386:Int)≤x.2.2.steps+x.1∧L0=loopS (fun y=>blkI C body y) name w.n x.1 x.2.1 x.2.2)
  (fun x=>⟨[(0,.ptr m 0),(3,.ptr n0 0),(5,.ptr (n0+2) 0),(6,I x.2.1)],K x.2.2.q++[.cells (St.mk 6 name mx a b body els).x,.cells [I 1,I u.n,S u.s],.cells [I 1,I w.n,S w.s]]⟩)
  (fun x=>x.1) (16386,u.n,s2) ⟨h2.1.mono (by omega) (by omega),(h1.2 _ rfl).1,by have:=h2.1.pt;simp only;omega,hL0⟩ (Wk.mk (by simp[hh,Y.len]) (by simp[go_sem]) (by simp[Y.und,Y.undA,Y.len,go_sem]) (by simp[go_sem,Y.len]<;>omega)) ?_
 rintro⟨f,i,s3⟩ ⟨hI3,hi,hf,hL⟩;dsimp only at hI3 hi hf hL;have hst3:=hI3.st;obtain⟨f,rfl⟩:∃f',f=f'+1:=⟨f - 1,by omega⟩
 rw[loopS]at hL;simp-dsimp[go_sem,hN,Y.len,Y.loc,Y.loc1,Y.loc2];refine cnd ?_ ?_<;>intro hc<;>simp at hc
 rotate_left
 ·rw[if_neg (by omega)]at hL;rw[hL];simp-dsimp[go_sem,hN,endU];exact⟨_,.refl _,K s3.q,by simp[go_sem],by first|exact hwk.refl _|exact hwk.app0 _|simp[hwk.refl],by simp[Y.len],Y.und' _,by first|rfl|simp,by first|rfl|simp[MS.q]⟩
 rw[if_pos hc]at hL;simp-dsimp[go_sem,hN];refine qaj (c_machine_tick (Y.ext [_,_,_] (by simp[hUnder,AObj.under,AV.under,qao])) s3 (by omega)) ?_;rintro r h' ⟨rfl,rfl⟩;rcases hT:tickS s3 with⟨z|⟨⟩,s4⟩
 ·rw[hT]at hL;simp only at hL;rw[hL];simp-dsimp[go_sem,hN,endU];exact⟨_,.refl _,K s4.q,by simp[go_sem],by first|exact hwk.refl _|exact hwk.app0 _|simp[hwk.refl],by simp[Y.len],Y.und' _,by first|rfl|simp,by first|rfl|simp[MS.q]⟩
 rw[hT]at hL;simp only at hL;have hI4:=(hI3.tick hT).vars (rng_vI hi) name;simp-dsimp[go_sem,hN,endU];refine qai 8 mixed (by kernel_rfl) (by kernel_rfl) ?_;simp-dsimp[go_sem,hN,Y.len,Y.loc,Y.loc1,Y.loc2,Y.lm',Y.lv',Y.sv',kvSet_vI];refine qaj (hblk (Y.ext [_,_,_] (by simp[hUnder,AObj.under,AV.under,qao])) { s4 with vars:=qbr s4.vars name (vI i) } (hI4.mono (by omega) (by omega))) ?_;rintro r h' ⟨rfl,rfl⟩;rcases hB5:blkI C body { s4 with vars:=qbr s4.vars name (vI i) }with⟨z|⟨⟩,s5⟩
 ·rw[hB5]at hL;simp only at hL;rw[hL];simp-dsimp[go_sem,hN,endU,hB5,St.body];exact⟨_,.refl _,K s5.q,by simp[go_sem],by first|exact hwk.refl _|exact hwk.app0 _|simp[hwk.refl],by simp[Y.len],Y.und' _,by first|rfl|simp,by first|rfl|simp[MS.q]⟩
 rw[hB5]at hL;simp only at hL;simp-dsimp[go_sem,hN,endU,hB5,St.body];have hb1:=blkI_steps (C:=C) body { s4 with vars:=qbr s4.vars name (vI i) };have hb2:=tick_steps s3;rw[hB5]at hb1;rw[hT]at hb2;simp only at hb1 hb2;exact⟨f,W64 (i+1),s5,⟨blkI_ok hC body _ _ _ hbody (hI4.mono (by omega) (by omega)) hB5,i64_w _,by omega,hL⟩,by omega,(Wk.mk (by simp[hh,Y.len]) (by simp[go_sem]) (by simp[Y.und,Y.undA,Y.len,go_sem]) (by simp[go_sem,Y.len]<;>omega))⟩
end Go.Proofs.YtilhejdbiionhaaGreatDoor

set_option maxRecDepth 4000
set_option maxHeartbeats 1000000
namespace Go.Proofs.YtilhejdbiionhaaGreatDoor
open Go Go.Abs Go.Cw
attribute [local go_sem] mC
variable {C:Cfg} {tT:TypeId} {tx:Nat×Nat} {g m v o io ir ip:Nat}
mutual
theorem qeh(hF:C.fmt=qbc)(hC:rngC C)(l:List St)(hG:∀x∈l,goS x){K:MQ→qab}{n0:Nat}(Y:MHs C tT tx g m v o io ir ip K n0)(s:MS)(hI:Cw.Inv 0 0 s) :
  ACalls Tryz.prog 45 [.ptr m 0,.slice (l.map St.c)] (K s.q) fun r h'=>r=endU (blkI C l s).1∧h'=K (blkI C l s).2.q:=by
 refine qaz Tryz.func45 Tryz.ntmps45 rfl (by kernel_rfl) rfl fun E hN hh hu hb hb' hua=>?_;simp[go_sem]at hb;have hmn:=Y.hm;obtain⟨L0,hL0⟩:∃L0,L0=blkI C l s:=⟨_,rfl⟩
 rw[←hL0];simp-dsimp[go_sem,hN];refine qap (α:=MS) l.length (fun n s'=>Cw.Inv 0 0 s'∧L0=blkI C (l.drop n) s') (fun n s'=>⟨[(0,.ptr m 0),(6,.slice (l.map St.c)),(7,I l.length),(8,I n)],K s'.q⟩) s ⟨hI,by simpa using hL0⟩ (Wk.mk (by simp[hh,Y.len]) (by simp[go_sem]) (by simp[Y.und,Y.undA,Y.len,go_sem]) (by simp[go_sem,Y.len]<;>omega)) ?_;rintro n s1 hn ⟨hI1,hL⟩;have hw:=qa2 hn hb.1;have hst1:=hI1.st;simp-dsimp[go_sem,hN];refine cnd ?_ ?_<;>intro hc<;>simp at hc
 rotate_left
 ·rw[List.drop_eq_nil_of_le (by omega),blkI]at hL;rw[hL];simp-dsimp[go_sem,hN,endU];exact⟨_,.refl _,K s1.q,by simp[go_sem],by first|exact hwk.refl _|exact hwk.app0 _|simp[hwk.refl],by simp[Y.len],Y.und' _,by first|rfl|simp,by first|rfl|simp[MS.q]⟩
 rw[qaf hc,blkI]at hL;have hlt:SizeOf.sizeOf l[n]<SizeOf.sizeOf l:=List.sizeOf_lt_of_mem (List.getElem_mem hc);simp-dsimp[go_sem,hN,hc,Y.len,St.c_eq];refine qaj (c_machine_tick (Y.ext [_] (by simp[hUnder,AObj.under,AV.under,qao])) s1 (by omega)) ?_;rintro r h' ⟨rfl,rfl⟩;rcases hT:tickS s1 with⟨z|⟨⟩,s2⟩
 ·rw[hT]at hL;simp only at hL;rw[hL];simp-dsimp[go_sem,hN,endU];exact⟨_,.refl _,K s2.q,by simp[go_sem],by first|exact hwk.refl _|exact hwk.app0 _|simp[hwk.refl],by simp[Y.len],Y.und' _,by first|rfl|simp,by first|rfl|simp[MS.q]⟩
 rw[hT]at hL;simp only at hL;have hI2:=hI1.tick hT;simp-dsimp[go_sem,hN,endU,Y.len,Y.loc];refine qaj (c_machine_stmt hF hC l[n] (hG _ (List.getElem_mem hc)) (Y.ext [_] (by simp[hUnder,AObj.under,AV.under,qao])) s2 hI2) ?_;rintro r h' ⟨rfl,rfl⟩;rcases hS:stI C l[n] s2 with⟨z|⟨⟩,s3⟩
 ·rw[hS]at hL;simp only at hL;rw[hL];simp-dsimp[go_sem,hN,endU];exact⟨_,.refl _,K s3.q,by simp[go_sem],by first|exact hwk.refl _|exact hwk.app0 _|simp[hwk.refl],by simp[Y.len],Y.und' _,by first|rfl|simp,by first|rfl|simp[MS.q]⟩
 rw[hS]at hL;simp only at hL;simp-dsimp[go_sem,hN,endU,hw];exact⟨hc,s3,⟨stI_ok hC _ _ _ _ (hG _ (List.getElem_mem hc)) hI2 hS,hL⟩,(Wk.mk (by simp[hh,Y.len]) (by simp[go_sem]) (by simp[Y.und,Y.undA,Y.len,go_sem]) (by simp[go_sem,Y.len]<;>omega))⟩
termination_by (SizeOf.sizeOf l,0)
theorem c_machine_stmt(hF:C.fmt=qbc)(hC:rngC C)(t:St)(hG:goS t){K:MQ→qab}{n0:Nat}(Y:MHs C tT tx g m v o io ir ip K n0)(s:MS)(hI:Cw.Inv 8192 1 s) :
  ACalls Tryz.prog 74 [.ptr m 0,.agg t.x] (K s.q) fun r h'=>r=endU (stI C t s).1∧h'=K (stI C t s).2.q:=by
 refine qaz Tryz.func74 Tryz.ntmps74 rfl (by kernel_rfl) rfl fun E hN hh hu hb hb' hua=>?_;simp[go_sem]at hb;have hG':=(goS_iff _).1 hG;have hmn:=Y.hm;obtain⟨hA,hB,hbody,hels⟩:=hG';have hst:=hI.st;have hrd:=hI.rd;have hpt:=hI.pt;have hlB:SizeOf.sizeOf t.body<SizeOf.sizeOf t:=by cases t;simp[St.body];omega
 have hlE:SizeOf.sizeOf t.els<SizeOf.sizeOf t:=by cases t;simp[St.els];omega
 rw[stI_eq];simp-dsimp[go_sem,hN,Y.len,Y.loc];by_cases h12:t.op=1∨t.op=2
 ·rw[if_pos h12];have ha:=hA (by omega);have h1:=hI.eval hC (r:=4097) ha;have hc:=qbs hF hC (Y.ext [.cells t.x] (by simp[hUnder,AObj.under,AV.under,qao])) s t.a ha.1 hI.rng hI.ar (by have:=ha.2;omega);obtain⟨x0,hx0⟩:∃x0,x0=evE C t.a s:=⟨_,rfl⟩
  rw[←hx0]at hc⊢;refine cnd ?_ ?_<;>intro h<;>simp at h
  all_goals
   rcases x0 with⟨z|u,s1⟩
   ·try simp-dsimp[go_sem,hN]
    refine cnd (fun _=>?_) (fun k=>by simp at k;omega)
    try simp-dsimp[go_sem,hN]
    refine qek 10 9 [0,1,2,3,4,5] mixed (by kernel_rfl) ?_;simp-dsimp[go_sem,hN,Y.len,Y.loc,Y.lm',Y.lv'];refine tkcall_pan (h2:=K s1.q++[.cells t.x]) (hc.mono (by rintro _ _ ⟨rfl,rfl⟩;exact⟨rfl,rfl⟩)) ?_;simp-dsimp[go_sem,hN,endU];exact⟨_,.refl _,K s1.q,by simp[go_sem],by first|exact hwk.refl _|exact hwk.app0 _|simp[hwk.refl],by simp[Y.len],Y.und' _,by first|rfl|simp,by first|rfl|simp[MS.q]⟩
   ·try simp-dsimp[go_sem,hN]
    refine cnd (fun _=>?_) (fun k=>by simp at k;omega)
    try simp-dsimp[go_sem,hN]
    refine qek 10 9 [0,1,2,3,4,5] mixed (by kernel_rfl) ?_;simp-dsimp[go_sem,hN,Y.len,Y.loc,Y.lm',Y.lv'];refine qd2 (h2:=K s1.q++[.cells t.x]) (r:=.agg u.c) (hc.mono (by rintro _ _ ⟨rfl,rfl⟩;exact⟨rfl,rfl⟩)) ?_;simp-dsimp[go_sem,hN,endU,Y.len,Y.loc,Y.lm',Y.lv',Y.sv'];exact⟨_,.refl _,K (MS.q { s1 with vars:=qbr s1.vars t.name u }),by simp[go_sem],by first|exact hwk.refl _|exact hwk.app0 _|simp[hwk.refl],by simp[Y.len],Y.und' _,by first|rfl|simp,by first|rfl|simp[MS.q]⟩
 rw[if_neg h12];have h12':¬t.op=1∧¬t.op=2:=by omega
 refine cnd (fun k=>by simp[h12']at k) (fun _=>?_)
 try simp-dsimp[go_sem,hN,h12'.1,h12'.2]
 refine cnd ?_ ?_<;>intro h3<;>simp at h3
 ·simp only[h3,if_true];have ha:=hA (by omega);have hb2:=hB (by omega);have h1:=hI.eval hC (r:=4097) ha;simp-dsimp[go_sem,hN,Y.len,Y.loc];refine qaj (qbs hF hC (Y.ext [_] (by simp[hUnder,AObj.under,AV.under,qao])) s t.a ha.1 hI.rng hI.ar (by have:=ha.2;omega)) ?_;rintro r h' ⟨rfl,rfl⟩;rcases hE:evE C t.a s with⟨z|u,s1⟩
  ·simp-dsimp[go_sem,hN,endV,endU];exact⟨_,.refl _,K s1.q,by simp[go_sem],by first|exact hwk.refl _|exact hwk.app0 _|simp[hwk.refl],by simp[Y.len],Y.und' _,by first|rfl|simp,by first|rfl|simp[MS.q]⟩
  rw[hE]at h1;simp only at h1;dsimp only;have hrd1:=h1.1.rd;have hst1:=h1.1.st;simp-dsimp[go_sem,hN,endV,Y.len,Y.loc,Y.loc1];refine qaj (qbs hF hC (Y.ext [_,_] (by simp[hUnder,AObj.under,AV.under,qao])) s1 t.b hb2.1 h1.1.rng h1.1.ar (by have:=hb2.2;omega)) ?_;rintro r h' ⟨rfl,rfl⟩;have h2:=h1.1.eval hC (r:=2) hb2;rcases hE2:evE C t.b s1 with⟨z|w,s2⟩
  ·simp-dsimp[go_sem,hN,endV,endU];exact⟨_,.refl _,K s2.q,by simp[go_sem],by first|exact hwk.refl _|exact hwk.app0 _|simp[hwk.refl],by simp[Y.len],Y.und' _,by first|rfl|simp,by first|rfl|simp[MS.q]⟩
  rw[hE2]at h2;simp only at h2;dsimp only;simp-dsimp[go_sem,hN,endV,Y.len,Y.loc,Y.loc1,Y.loc2]
  repeat refine⟨by grind,?_⟩
  have hpt2:=h2.1.pt;have hst2:=h2.1.st;refine qaj (qdu (decide (u.k=2)&&(decide (w.k=1)||decide (w.k=2))) _) ?_;rintro r h' ⟨⟨hm,rfl⟩|⟨hm,rfl⟩,rfl⟩<;>simp at hm
  rotate_left
  ·simp-dsimp[go_sem,hN,endU];rw[if_neg (by rintro⟨k1,k2⟩;have:=hm k1;omega)];exact⟨_,.refl _,K s2.q,by simp[go_sem],by first|exact hwk.refl _|exact hwk.app0 _|simp[hwk.refl],by simp[Y.len],Y.und' _,by first|rfl|simp,by first|rfl|simp[MS.q]⟩
  rw[if_pos hm];simp-dsimp[go_sem,hN,Y.len,Y.loc,Y.loc1,Y.loc2];refine qaj (c_machine_store (Y.ext [_,_,_] (by simp[hUnder,AObj.under,AV.under,qao])) s2 u.s w h2.1.ap (by omega)) ?_;rintro r h' ⟨rfl,rfl⟩;rcases qcq C u.s w s2 with⟨z|⟨⟩,s3⟩<;>simp-dsimp[go_sem,hN,endU]<;>exact⟨_,.refl _,K s3.q,by simp[go_sem],by first|exact hwk.refl _|exact hwk.app0 _|simp[hwk.refl],by simp[Y.len],Y.und' _,by first|rfl|simp,by first|rfl|simp[MS.q]⟩
 simp only[h3,if_false];simp-dsimp[go_sem,hN,Y.len,Y.loc];refine cnd ?_ ?_<;>intro h4<;>simp at h4
 ·simp only[h4,if_true];have ha:=hA (by omega);have h1:=hI.eval hC (r:=4097) ha;simp-dsimp[go_sem,hN,Y.len,Y.loc];refine qaj (qbs hF hC (Y.ext [_] (by simp[hUnder,AObj.under,AV.under,qao])) s t.a ha.1 hI.rng hI.ar (by have:=ha.2;omega)) ?_;rintro r h' ⟨rfl,rfl⟩;rcases hE:evE C t.a s with⟨z|u,s1⟩
  ·simp-dsimp[go_sem,hN,endV,endU];exact⟨_,.refl _,K s1.q,by simp[go_sem],by first|exact hwk.refl _|exact hwk.app0 _|simp[hwk.refl],by simp[Y.len],Y.und' _,by first|rfl|simp,by first|rfl|simp[MS.q]⟩
  rw[hE]at h1;simp only at h1;dsimp only;have hpt1:=h1.1.pt;have hst1:=h1.1.st;simp-dsimp[go_sem,hN,endV,Y.len,Y.loc,Y.loc1];refine qaj (qdu (decide (u.k=2)) _) ?_;rintro r h' ⟨⟨hm,rfl⟩|⟨hm,rfl⟩,rfl⟩<;>simp at hm
  rotate_left
  ·simp-dsimp[go_sem,hN,endU,hm];exact⟨_,.refl _,K s1.q,by simp[go_sem],by first|exact hwk.refl _|exact hwk.app0 _|simp[hwk.refl],by simp[Y.len],Y.und' _,by first|rfl|simp,by first|rfl|simp[MS.q]⟩
  simp only[hm,if_true];simp-dsimp[go_sem,hN,Y.len,Y.loc,Y.loc1];refine qaj (c_machine_store (Y.ext [_,_] (by simp[hUnder,AObj.under,AV.under,qao])) s1 u.s V.nil h1.1.ap (by omega)) ?_;rintro r h' ⟨rfl,rfl⟩;rcases qcq C u.s V.nil s1 with⟨z|⟨⟩,s2⟩<;>simp-dsimp[go_sem,hN,endU]<;>exact⟨_,.refl _,K s2.q,by simp[go_sem],by first|exact hwk.refl _|exact hwk.app0 _|simp[hwk.refl],by simp[Y.len],Y.und' _,by first|rfl|simp,by first|rfl|simp[MS.q]⟩
 simp only[h4,if_false];simp-dsimp[go_sem,hN,Y.len,Y.loc];refine cnd ?_ ?_<;>intro h5<;>simp at h5
 ·simp only[h5,if_true];have ha:=hA (by omega);have h1:=hI.eval hC (r:=4097) ha;simp-dsimp[go_sem,hN,Y.len,Y.loc];refine qaj (qbs hF hC (Y.ext [_] (by simp[hUnder,AObj.under,AV.under,qao])) s t.a ha.1 hI.rng hI.ar (by have:=ha.2;omega)) ?_;rintro r h' ⟨rfl,rfl⟩;rcases hE:evE C t.a s with⟨z|u,s1⟩
  ·simp-dsimp[go_sem,hN,endV,endU];exact⟨_,.refl _,K s1.q,by simp[go_sem],by first|exact hwk.refl _|exact hwk.app0 _|simp[hwk.refl],by simp[Y.len],Y.und' _,by first|rfl|simp,by first|rfl|simp[MS.q]⟩
  rw[hE]at h1;simp only at h1;dsimp only;simp-dsimp[go_sem,hN,endV,Y.len,Y.loc,Y.loc1];refine qaj (qdu (decide (u.k=3)) _) ?_;rintro r h' ⟨⟨hm,rfl⟩|⟨hm,rfl⟩,rfl⟩<;>simp at hm
  rotate_left
  ·simp-dsimp[go_sem,hN,endU,hm];exact⟨_,.refl _,K s1.q,by simp[go_sem],by first|exact hwk.refl _|exact hwk.app0 _|simp[hwk.refl],by simp[Y.len],Y.und' _,by first|rfl|simp,by first|rfl|simp[MS.q]⟩
  simp only[hm,if_true];simp-dsimp[go_sem,hN,Y.len,Y.loc,Y.loc1];refine cnd ?_ ?_<;>intro hx<;>simp at hx
  ·simp only[hx,if_true];simp-dsimp[go_sem,hN,Y.len,Y.loc,Y.loc1];refine qaj (qeh hF hC t.body hbody (Y.ext [_,_] (by simp[hUnder,AObj.under,AV.under,qao])) s1 (h1.1.mono (by omega) (by omega))) ?_;rintro r h' ⟨rfl,rfl⟩;rcases blkI C t.body s1 with⟨z|⟨⟩,s2⟩<;>simp-dsimp[go_sem,hN,endU]<;>exact⟨_,.refl _,K s2.q,by simp[go_sem],by first|exact hwk.refl _|exact hwk.app0 _|simp[hwk.refl],by simp[Y.len],Y.und' _,by first|rfl|simp,by first|rfl|simp[MS.q]⟩
  ·simp only[hx,if_false];simp-dsimp[go_sem,hN,Y.len,Y.loc,Y.loc1];refine qaj (qeh hF hC t.els hels (Y.ext [_,_] (by simp[hUnder,AObj.under,AV.under,qao])) s1 (h1.1.mono (by omega) (by omega))) ?_;rintro r h' ⟨rfl,rfl⟩;rcases blkI C t.els s1 with⟨z|⟨⟩,s2⟩<;>simp-dsimp[go_sem,hN,endU]<;>exact⟨_,.refl _,K s2.q,by simp[go_sem],by first|exact hwk.refl _|exact hwk.app0 _|simp[hwk.refl],by simp[Y.len],Y.und' _,by first|rfl|simp,by first|rfl|simp[MS.q]⟩
 simp only[h5,if_false];simp-dsimp[go_sem,hN,Y.len,Y.loc];refine cnd ?_ ?_<;>intro h6<;>simp at h6
 ·rw[if_pos h6];simp-dsimp[go_sem,hN,Y.len,Y.loc];refine qaj (c_machine_loop hF hC (Y.ext [_] (by simp[hUnder,AObj.under,AV.under,qao])) t h6 hG s hI (fun Y' s' hI'=>qeh hF hC t.body hbody Y' s' hI')) ?_;rintro r h' ⟨rfl,rfl⟩;rcases stI C t s with⟨z|⟨⟩,s2⟩<;>simp-dsimp[go_sem,hN,endU]<;>exact⟨_,.refl _,K s2.q,by simp[go_sem],by first|exact hwk.refl _|exact hwk.app0 _|simp[hwk.refl],by simp[Y.len],Y.und' _,by first|rfl|simp,by first|rfl|simp[MS.q]⟩
 simp only[h6,if_false];simp-dsimp[go_sem,hN,Y.len,Y.loc];refine cnd ?_ ?_<;>intro h7<;>simp at h7
 ·simp only[h7,if_true];have ha:=hA (by omega);have h1:=hI.eval hC (r:=4097) ha;simp-dsimp[go_sem,hN,Y.len,Y.loc];refine qaj (qbs hF hC (Y.ext [_] (by simp[hUnder,AObj.under,AV.under,qao])) s t.a ha.1 hI.rng hI.ar (by have:=ha.2;omega)) ?_;rintro r h' ⟨rfl,rfl⟩;rcases hE:evE C t.a s with⟨z|u,s1⟩
  ·simp-dsimp[go_sem,hN,endV,endU];exact⟨_,.refl _,K s1.q,by simp[go_sem],by first|exact hwk.refl _|exact hwk.app0 _|simp[hwk.refl],by simp[Y.len],Y.und' _,by first|rfl|simp,by first|rfl|simp[MS.q]⟩
  rw[hE]at h1;simp only at h1;dsimp only;have hot:=h1.1.ot;simp-dsimp[go_sem,hN,endV,Y.len,Y.loc,Y.loc1]
  repeat refine⟨by grind,?_⟩
  refine qaj (qdu (decide (u.k=1)||decide (u.k=2)) _) ?_;rintro r h' ⟨⟨hm,rfl⟩|⟨hm,rfl⟩,rfl⟩<;>simp at hm
  rotate_left
  ·simp-dsimp[go_sem,hN,endU,hm];exact⟨_,.refl _,K s1.q,by simp[go_sem],by first|exact hwk.refl _|exact hwk.app0 _|simp[hwk.refl],by simp[Y.len],Y.und' _,by first|rfl|simp,by first|rfl|simp[MS.q]⟩
  simp only[hm,if_true];simp-dsimp[go_sem,hN,Y.len,Y.loc,Y.loc1];refine qaj (c_machine_emit (Y.ext [_,_] (by simp[hUnder,AObj.under,AV.under,qao])) s1 u (by omega)) ?_;rintro r h' ⟨rfl,rfl⟩;rcases emitS u s1 with⟨z|⟨⟩,s2⟩<;>simp-dsimp[go_sem,hN,endU]<;>exact⟨_,.refl _,K s2.q,by simp[go_sem],by first|exact hwk.refl _|exact hwk.app0 _|simp[hwk.refl],by simp[Y.len],Y.und' _,by first|rfl|simp,by first|rfl|simp[MS.q]⟩
 simp only[h7,if_false];simp-dsimp[go_sem,hN,Y.len,Y.loc];refine cnd ?_ ?_<;>intro h8<;>simp at h8
 ·simp only[h8,if_true];simp-dsimp[go_sem,hN,Y.len,Y.loc];refine qaj (qa7 t.max _) ?_;rintro r h' ⟨rfl,rfl⟩;simp-dsimp[go_sem,hN,endU];exact⟨_,.refl _,K s.q,by simp[go_sem],by first|exact hwk.refl _|exact hwk.app0 _|simp[hwk.refl],by simp[Y.len],Y.und' _,by first|rfl|simp,by first|rfl|simp[MS.q]⟩
 ·simp only[h8,if_false];simp-dsimp[go_sem,hN,endU];exact⟨_,.refl _,K s.q,by simp[go_sem],by first|exact hwk.refl _|exact hwk.app0 _|simp[hwk.refl],by simp[Y.len],Y.und' _,by first|rfl|simp,by first|rfl|simp[MS.q]⟩
termination_by (SizeOf.sizeOf t,0)
end
end Go.Proofs.YtilhejdbiionhaaGreatDoor
