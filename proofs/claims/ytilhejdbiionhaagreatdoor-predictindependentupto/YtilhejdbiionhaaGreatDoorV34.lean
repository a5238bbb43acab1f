/- Part 34 of a proof: W21, W22, W23, W24 -/
import Derived.Shelf.Small.Strs
import Derived.Shelf.Strconv.Itoa4
import Derived.Lib.ItoaLen
import Derived.Test.YtilhejdbiionhaaGreatDoorV13
import Derived.Test.YtilhejdbiionhaaGreatDoorV14
import Derived.Test.YtilhejdbiionhaaGreatDoorV16
import Derived.Test.YtilhejdbiionhaaGreatDoorV17
import Derived.Test.YtilhejdbiionhaaGreatDoorV22
import Derived.Test.YtilhejdbiionhaaGreatDoorV23
import Derived.Test.YtilhejdbiionhaaGreatDoorV26
import Derived.Test.YtilhejdbiionhaaGreatDoorV30
import Derived.Test.YtilhejdbiionhaaGreatDoorV31
import Derived.Test.YtilhejdbiionhaaGreatDoorV33
set_option linter.all false

set_option maxRecDepth 4000
namespace Go.Proofs.YtilhejdbiionhaaGreatDoor
open Go Go.Abs Go.Cw Go.Shelf Go.Lib
def renI:Ren:=⟨fun | 17=>296 | 22=>223 | 29=>259 | 30=>260 | 36=>278 | x=>x,fun | 0=>0 | 3=>3 | 4=>4 | 9=>9 | 24=>30 | x=>x,fun x=>x⟩
theorem laysI:Lays2.n22 Tryz.prog renI:=by
 constructor<;>first | exact fun _=>by kernel_rfl | kernel_rfl
theorem c_cmpNaN_str (s:qac):APure Tryz.prog 179 [S s] (Bo false):=by
 refine qap Tryz.func179 Tryz.ntmps179 rfl (by kernel_rfl) rfl rfl fun E h hN hh hu hb=>?_;simp -dsimp [go_sem,hN]
theorem c_isNaN_str (s:qac):APure Tryz.prog 126 [S s] (Bo false):=by
 refine qap Tryz.func126 Tryz.ntmps126 rfl (by kernel_rfl) rfl rfl fun E h hN hh hu hb=>?_;simp -dsimp [go_sem,hN]
theorem c_less_str (a b:qac):APure Tryz.prog 125 [S a,S b] (Bo (sLt a b)):=by
 refine qap Tryz.func125 Tryz.ntmps125 rfl (by kernel_rfl) rfl rfl fun E h hN hh hu hb=>?_;simp -dsimp [go_sem,hN];refine qaa (c_cmpNaN_str a) ?_;simp -dsimp [go_sem,hN];refine tgcall_false ?_;simp -dsimp [go_sem,hN]
theorem c_BinarySearch (l:List qac) (k:qac) (hs:ascS l):APure Tryz.prog 78 [.slice (l.map qa1),S k] (.tuple [I (posS k l),Bo (decide (l[posS k l]?=some k))]):=by
 refine qap Tryz.func78 Tryz.ntmps78 rfl (by kernel_rfl) rfl rfl fun E h hN hh hu hb=>?_;simp [go_sem] at hb;have hp:=posS_le k l;simp -dsimp [go_sem,hN];refine awp_loopM (α:=Nat×Nat) (fun x=>x.1≤posS k l∧posS k l≤x.2∧x.2≤l.length) (fun x=>⟨[(0,.slice (l.map qa1)),(1,S k),(6,I l.length),(7,I x.1),(8,I x.2)],h⟩) (fun x=>x.2 - x.1) (0,l.length) ⟨by simp,hp,by simp⟩ wkA ?_;rintro ⟨i,j⟩ ⟨h1,h2,h3⟩;simp only at h1 h2 h3;simp -dsimp [go_sem,hN];refine cnd ?_ ?_<;>intro hc<;>simp at hc
 ·
  have hm:IntKind.i64.wrap ((IntKind.u64.wrap (IntKind.i64.wrap ((i:Int)+j))).fdiv 2)=(((i+j) / 2:Nat):Int):=by
   have h0:=hb.1.1;have e0:IntKind.i64.wrap ((i:Int)+j)=(i:Int)+j:=wrapI (by omega) (by omega);rw [e0];have:IntKind.u64.wrap ((i:Int)+j)=(i:Int)+j:=by
    simp only [IntKind.wrap,IntKind.bits,IntKind.signed];simp;omega
   rw [this];have e1:((i:Int)+j).fdiv 2=(((i+j) / 2:Nat):Int):=by
    rw [Int.fdiv_eq_ediv_of_nonneg _ (by omega)];omega
   rw [e1,wrapI (by omega) (by omega)]
  have hlt:(i+j) / 2<l.length:=by omega
  have hi':=posS_lt (k:=k) hs ((i+j) / 2) hlt;generalize hq:(i+j) / 2=q at hm hlt hi';have hw:IntKind.i64.wrap ((q:Int)+1)=((q+1:Nat):Int):=by have h0:=hb.1.1;rw [wrapI (by omega) (by omega)];omega
  simp -dsimp [go_sem,hN,hm,hlt,qa1];refine qaa (c_less_str l[q] k) ?_;simp -dsimp [go_sem,hN];refine cnd (fun hc2=>?_) (fun hc2=>?_)
  ·
   simp -dsimp [go_sem,hN,hw];exact ⟨q+1,j,⟨by have:=hi'.2 hc2;omega,h2,h3⟩,by omega,wkA⟩
  ·
   simp -dsimp [go_sem,hN];refine ⟨i,q,⟨h1,?_,by omega⟩,by omega,wkA⟩;rcases Nat.lt_or_ge q (posS k l) with h5 | h5
   · have:=hi'.1 h5;rw [this] at hc2;cases hc2
   · exact h5
 ·
  have hi:i=posS k l:=by omega
  subst hi;by_cases hlt:posS k l<l.length
  ·
   simp -dsimp [go_sem,hN,hlt,qa1]
   repeat refine ⟨by grind,?_⟩
   refine qaf (c_isNaN_str _) (by simp) ?_;simp -dsimp [go_sem,hN];refine tgcall_false ?_;simp -dsimp [go_sem,hN];rw [List.getElem?_eq_getElem hlt];simp
  ·
   have hd:decide (posS k l<l.length)=false:=by simpa using hlt
   have hnone:l[posS k l]?=none:=List.getElem?_eq_none (by omega);simp -dsimp [go_sem,hN,hd,hnone];refine tgcall_false ?_;simp -dsimp [go_sem,hN];refine tgcall_false ?_;simp -dsimp [go_sem,hN];rw [hnone];simp
theorem c_with (h:qab) (i:Nat) (l:List qac) (hi:h[i]?=some (.uarr 9 1 (l.map qa1))) (hlen:l.length+1≤68719476736) (key:qac) (ha:ascS l) :
  ACalls Tryz.prog 178 [.own i l.length,S key] h fun r h'=>r=.ret (.own i (withS l key).length)∧h'=h.set i (.uarr 9 1 ((withS l key).map qa1)):=by
 refine acalls_intro Tryz.func178 rfl (by kernel_rfl) (by simp [Tryz.ntmps178]) ?_;intro E hN hh hu;rw [Tryz.ntmps178] at hN;have hil:i<h.length:=(List.getElem?_eq_some_iff.1 hi).1;have hn:(l.map qa1).length=l.length:=by simp
 have hB:=c_BinarySearch l key ha;refine qbg (awp_ops ?_);simp [go_sem,hN];refine qbg (awp_opsB [_,_] ?_);simp [go_sem,hN,borStep,borV,hi,hn];refine ⟨_,hB,by simp [flatB],?_⟩;simp [go_sem,hN];refine qbg (qbg (awp_ops ?_));simp [go_sem,hN];have hle:=posS_le key l;rcases hc:decide (l[posS key l]?=some key) with _ | _
 ·
  have hw:withS l key=l.take (posS key l)++key::l.drop (posS key l):=by rw [withS,if_neg (by simpa using hc)]
  refine awp_cond (b:=false) (by simpa [go_sem] using hc) (fun h=>by cases h) (fun _=>?_);refine awp_skip ?_;simp;refine qbg (awp_opsT [_,_,_] _ ?_);simp [go_sem,hN];intro c a w s k;refine wp_insert laysI s k (T:=30) (x:=.tmp 17) (xa:=.tmp 15) (xb:=.tmp 16) (f:=.func 223) (d1:=18) rfl rfl rfl (by omega) (by simp [qdy,hN]) rfl rfl (by simp [renI]) (by simp [renI]) (by simp [renI]) (by simp [go_sem]) (key:=key) (by simp [go_sem]) (i:=i) (n:=l.length) (by simp [go_sem]) (pos:=posS key l) (by simp [go_sem]) (by simp) (by simp) rfl hi hn hle hlen
   ⟨_,Tryz.func223,by kernel_rfl,by kernel_rfl⟩ fun c' a' w' s' k'=>?_
  refine qcw _ [_,_,_,_,_] _ rfl ?_ c' a' w' s' k';simp [go_sem,hN];have hl':(withS l key).length=l.length+1:=by rw [hw];simp;omega
  refine awp_ret ⟨⟨trivial,trivial⟩,.own i (l.length+1),_,?_,?_,hwk.refl _,?_,?_,by rw [hl'],by rw [hw];simp [List.map_take,List.map_drop,qa1,renI]⟩
  · simp [go_sem,hil]
  · simp [AV.under,hil]
  · simp
  ·
   rw [hUnder_iff] at hu ⊢;intro o ho;simp only [List.length_set];rcases List.mem_or_eq_of_mem_set ho with ho | rfl
   · exact hu o ho
   · rfl
 ·
  have hw:withS l key=l:=by rw [withS,if_pos (by simpa using hc)]
  refine awp_cond (b:=true) (by simpa [go_sem] using hc) (fun _=>?_) (fun h=>by cases h);refine qbg (awp_ops ?_);simp [go_sem,hN];rw [hw,qcz hi];refine awp_ret ⟨⟨trivial,trivial⟩,.own i l.length,h,by simp [go_sem,hi],by simp [AV.under,hil],hwk.refl _,Nat.le_refl _,hu,rfl,rfl⟩
end Go.Proofs.YtilhejdbiionhaaGreatDoor

set_option maxRecDepth 4000
set_option maxHeartbeats 2000000
namespace Go.Proofs.YtilhejdbiionhaaGreatDoor
open Go Go.Abs Go.Cw
attribute [local go_sem] mC
variable {C:Cfg} {tT:TypeId} {tx:Nat×Nat} {g m v o io ir ip:Nat} {K:MQ→qab} {n0:Nat}
abbrev MHs (C:Cfg) (tT:TypeId) (tx:Nat×Nat) (g m v o io ir ip:Nat) (K:MQ→qab) (n0:Nat):Prop:=MH C (tabO tT tx) 54 9 g m v o io ir ip K n0
theorem c_machine_tick (Y:MHs C tT tx g m v o io ir ip K n0) (s:MS) (hst:s.steps≤100000) :
  ACalls Tryz.prog 73 [.ptr m 0] (K s.q) fun r h'=>r=endU (tickS s).1∧h'=K (tickS s).2.q:=by
 refine qaq Tryz.func73 Tryz.ntmps73 rfl (by kernel_rfl) rfl fun E hN hh hu hb hb' hua=>?_;have hw:IntKind.i64.wrap ((s.steps:Int)+1)=(s.steps:Int)+1:=wrapI (by omega) (by omega);simp -dsimp [go_sem,hN,Y.lm,hw,Y.smx];refine cnd ?_ ?_<;>intro h0<;>simp at h0
 ·
  simp -dsimp [go_sem,hN];refine qaj (qa5 1008 _) ?_;rintro r h' ⟨rfl,rfl⟩;simp -dsimp [go_sem,hN];rw [tickS,if_pos (by omega)];exact ⟨_,.refl _,K (tickS s).2.q,by simp [go_sem],by first | exact hwk.refl _ | exact hwk.app0 _ | simp [hwk.refl],by simp [Y.len],Y.und' _,by first | rfl | simp,by first | rfl | simp [MS.q]⟩
 ·
  simp -dsimp [go_sem,hN];rw [tickS,if_neg (by omega)];exact ⟨_,.refl _,K (tickS s).2.q,by simp [go_sem],by first | exact hwk.refl _ | exact hwk.app0 _ | simp [hwk.refl],by simp [Y.len],Y.und' _,by first | rfl | simp,by first | rfl | simp [MS.q]⟩
theorem c_machine_emit (Y:MHs C tT tx g m v o io ir ip K n0) (s:MS) (x:V) (hl:s.out.length≤100) :
  ACalls Tryz.prog 120 [.ptr m 0,.agg x.c] (K s.q) fun r h'=>r=endU (emitS x s).1∧h'=K (emitS x s).2.q:=by
 refine qaq Tryz.func120 Tryz.ntmps120 rfl (by kernel_rfl) rfl fun E hN hh hu hb hb' hua=>?_;simp -dsimp [go_sem,hN,Y.lm',Y.lio'];refine cnd ?_ ?_<;>intro h0<;>simp at h0
 ·
  simp -dsimp [go_sem,hN];refine qaj (qa5 1007 _) ?_;rintro r h' ⟨rfl,rfl⟩;simp -dsimp [go_sem,hN];rw [emitS,if_pos (by omega)];exact ⟨_,.refl _,K s.q,by simp [go_sem],by first | exact hwk.refl _ | exact hwk.app0 _ | simp [hwk.refl],by simp [Y.len],Y.und' _,by first | rfl | simp,by first | rfl | simp [MS.q]⟩
 simp -dsimp [go_sem,hN];refine awp_drawP 10 9 [0] mixed (by kernel_rfl) ?_;simp -dsimp [go_sem,hN,Y.lm',Y.lio',Y.len,Y.loc,Y.sioA,Y.smx'];refine ⟨by omega,?_⟩;rw [emitS,if_neg (by omega)];exact ⟨_,.refl _,K ⟨s.vars,s.own,s.out++[x],s.reads,s.puts,s.out.length+1,s.reads.length,s.puts.length,s.steps⟩,by simp [go_sem],by first | exact hwk.refl _ | exact hwk.app0 _ | simp [hwk.refl],by simp [Y.len],Y.und' _,by first | rfl | simp,by first | rfl | simp [MS.q]⟩
theorem c_machine_fetch (Y:MHs C tT tx g m v o io ir ip K n0) (s:MS) (key:qac) (ha:ascS s.reads) (hl:s.reads.length+1≤68719476736) :
  ACalls Tryz.prog 219 [.ptr m 0,S key] (K s.q) fun r h'=>r=endV (fetchS C key s).1∧h'=K (fetchS C key s).2.q:=by
 refine qaq Tryz.func219 Tryz.ntmps219 rfl (by kernel_rfl) rfl fun E hN hh hu hb hb' hua=>?_;simp -dsimp [go_sem,hN];refine qaa (c_keys_Valid key) ?_;simp -dsimp [go_sem,hN];refine cnd ?_ ?_<;>intro h0<;>simp at h0
 ·
  simp -dsimp [go_sem,hN];refine qaj (qa5 1004 _) ?_;rintro r h' ⟨rfl,rfl⟩;simp -dsimp [go_sem,hN];rw [fetchS,if_pos h0];exact ⟨_,.refl _,K s.q,by simp [go_sem],by first | exact hwk.refl _ | exact hwk.app0 _ | simp [hwk.refl],by simp [Y.len],Y.und' _,by first | rfl | simp,by first | rfl | simp [MS.q]⟩
 rw [fetchS,if_neg (by simp [h0])];rcases hk:qbm s.own key with _ | w
 rotate_left
 ·
  simp -dsimp [go_sem,hN,Y.lm',Y.lo',hk];exact ⟨_,.refl _,K s.q,by simp [go_sem],by first | exact hwk.refl _ | exact hwk.app0 _ | simp [hwk.refl],by simp [Y.len],Y.und' _,by first | rfl | simp,by first | rfl | simp [MS.q]⟩
 simp -dsimp [go_sem,hN,Y.lm',Y.lo',hk];refine qaf (c_Contains_S C.rd key) (by simp) ?_;simp -dsimp [go_sem,hN]
 repeat refine ⟨by grind,?_⟩
 refine cnd ?_ ?_<;>intro h1<;>simp at h1
 ·
  simp -dsimp [go_sem,hN];refine qaj (c_interp_restart key _) ?_;rintro r h' ⟨rfl,rfl⟩;simp -dsimp [go_sem,hN];simp only [h1.1,h1.2,and_self,if_true];exact ⟨_,.refl _,K s.q,by simp [go_sem],by first | exact hwk.refl _ | exact hwk.app0 _ | simp [hwk.refl],by simp [Y.len],Y.und' _,by first | rfl | simp,by first | rfl | simp [MS.q]⟩
 have h1':¬ (C.all=false∧hasK C.rd key=false):=by rintro ⟨h2,h3⟩;have:=h1 h2;rw [this] at h3;cases h3
 simp only [h1',if_false];simp -dsimp [go_sem,hN,Y.lm',Y.lir'];refine qaj (c_with _ _ s.reads (Y.lir' s.q _) (by omega) key ha) ?_;rintro r h' ⟨rfl,rfl⟩;simp -dsimp [go_sem,hN,Y.sir',Y.lm',Y.smx',Y.len,Y.loc,Y.sloc,Y.loc1,Y.sloc1];refine qaa (c_state_Get C.state key) ?_;simp -dsimp [go_sem,hN,Y.sir',Y.lm',Y.smx',Y.len,Y.loc,Y.sloc,Y.loc1,Y.sloc1];exact ⟨_,.refl _,K (MS.q { s with reads:=withS s.reads key }),by simp [go_sem],by first | exact hwk.refl _ | exact hwk.app0 _ | simp [hwk.refl],by simp [Y.len],Y.und' _,by first | rfl | simp,by first | rfl | simp [MS.q]⟩
theorem c_machine_store (Y:MHs C tT tx g m v o io ir ip K n0) (s:MS) (key:qac) (x:V) (ha:ascS s.puts) (hl:s.puts.length+1≤68719476736) :
  ACalls Tryz.prog 118 [.ptr m 0,S key,.agg x.c] (K s.q) fun r h'=>r=endU (qde C key x s).1∧h'=K (qde C key x s).2.q:=by
 refine qaq Tryz.func118 Tryz.ntmps118 rfl (by kernel_rfl) rfl fun E hN hh hu hb hb' hua=>?_;simp -dsimp [go_sem,hN];refine qaa (c_keys_Valid key) ?_;simp -dsimp [go_sem,hN];refine cnd ?_ ?_<;>intro h0<;>simp at h0
 ·
  simp -dsimp [go_sem,hN];refine qaj (qa5 1004 _) ?_;rintro r h' ⟨rfl,rfl⟩;simp -dsimp [go_sem,hN];rw [qde,if_pos h0];exact ⟨_,.refl _,K s.q,by simp [go_sem],by first | exact hwk.refl _ | exact hwk.app0 _ | simp [hwk.refl],by simp [Y.len],Y.und' _,by first | rfl | simp,by first | rfl | simp [MS.q]⟩
 rw [qde,if_neg (by simp [h0])];simp -dsimp [go_sem,hN,Y.lm'];refine qaf (c_Contains_S C.wr key) (by simp) ?_;simp -dsimp [go_sem,hN]
 repeat refine ⟨by grind,?_⟩
 refine cnd ?_ ?_<;>intro h1<;>simp at h1
 ·
  simp -dsimp [go_sem,hN];refine qaj (c_interp_restart key _) ?_;rintro r h' ⟨rfl,rfl⟩;simp -dsimp [go_sem,hN];simp only [h1.1,h1.2,and_self,if_true];exact ⟨_,.refl _,K s.q,by simp [go_sem],by first | exact hwk.refl _ | exact hwk.app0 _ | simp [hwk.refl],by simp [Y.len],Y.und' _,by first | rfl | simp,by first | rfl | simp [MS.q]⟩
 have h1':¬ (C.all=false∧hasK C.wr key=false):=by rintro ⟨h2,h3⟩;have:=h1 h2;rw [this] at h3;cases h3
 simp only [h1',if_false];simp -dsimp [go_sem,hN,Y.lm',Y.lip'];refine qaj (c_with _ _ s.puts (Y.lip' s.q _) (by omega) key ha) ?_;rintro r h' ⟨rfl,rfl⟩;simp -dsimp [go_sem,hN,Y.sip',Y.lm',Y.smx'];refine qak 6 mixed (by kernel_rfl) (by kernel_rfl) ?_;simp -dsimp [go_sem,hN,Y.lm',Y.lo',Y.len,Y.loc,Y.so'];exact ⟨_,.refl _,K (MS.q { s with puts:=withS s.puts key,own:=qbz s.own key x }),by simp [go_sem],by first | exact hwk.refl _ | exact hwk.app0 _ | simp [hwk.refl],by simp [Y.len],Y.und' _,by first | rfl | simp,by first | rfl | simp [MS.q]⟩
end Go.Proofs.YtilhejdbiionhaaGreatDoor

set_option maxRecDepth 4000
set_option maxHeartbeats 4000000
namespace Go.Proofs.YtilhejdbiionhaaGreatDoor
open Go Go.Abs Go.Cw
attribute [local go_sem] mC
variable {C:Cfg} {tT:TypeId} {tx:Nat×Nat} {g m v o io ir ip:Nat} {K:MQ→qab} {n0:Nat}
theorem c_machine_unary (Y:MHs C tT tx g m v o io ir ip K n0) (hF:C.fmt=qbo) (s:MS) (op:Int) (a:V) (ha:ascS s.reads) (hl:s.reads.length+1≤68719476736) (hr:rngV a) :
  ACalls Tryz.prog 174 [.ptr m 0,I op,.agg a.c] (K s.q) fun r h'=>r=endV (unS C op a s).1∧h'=K (unS C op a s).2.q:=by
 refine qaq Tryz.func174 Tryz.ntmps174 rfl (by kernel_rfl) rfl fun E hN hh hu hb hb' hua=>?_;simp -dsimp [go_sem,hN,Y.len];refine cnd ?_ ?_<;>intro h0<;>simp at h0
 ·
  rw [unS,if_pos h0];simp -dsimp [go_sem,hN,Y.loc,Y.len];refine qaj (qdk (decide (a.k=1)) _) ?_;rintro r h' ⟨⟨hm,rfl⟩ | ⟨hm,rfl⟩,rfl⟩<;>simp at hm
  ·
   simp -dsimp [go_sem,hN,Y.loc,Y.len];refine qaa (c_num_Neg a.n) ?_;simp -dsimp [go_sem,hN,Y.loc,Y.len];refine qaj (qcy (numNeg a.n) _) ?_;rintro r h' ⟨rfl,rfl⟩;rw [if_pos hm];cases qdt (numNeg a.n)<;>simp -dsimp [go_sem,hN,endV,Y.loc1,Y.sloc1,Y.len]<;>exact ⟨_,.refl _,K s.q,by simp [go_sem],by first | exact hwk.refl _ | exact hwk.app0 _ | simp [hwk.refl],by simp [Y.len],Y.und' _,by first | rfl | simp,by first | rfl | simp [MS.q]⟩
  ·
   simp -dsimp [go_sem,hN];rw [if_neg hm];exact ⟨_,.refl _,K s.q,by simp [go_sem],by first | exact hwk.refl _ | exact hwk.app0 _ | simp [hwk.refl],by simp [Y.len],Y.und' _,by first | rfl | simp,by first | rfl | simp [MS.q]⟩
 simp -dsimp [go_sem,hN,Y.len];rw [unS,if_neg h0];refine cnd ?_ ?_<;>intro h1<;>simp at h1
 ·
  rw [if_pos h1];simp -dsimp [go_sem,hN,Y.loc,Y.len];refine qaj (qdk (decide (a.k=3)) _) ?_;rintro r h' ⟨⟨hm,rfl⟩ | ⟨hm,rfl⟩,rfl⟩<;>simp at hm
  ·
   simp -dsimp [go_sem,hN,Y.loc,Y.len];refine qaa (qbq (decide (a.n=0))) ?_;simp -dsimp [go_sem,hN,Y.loc1,Y.sloc1,Y.len];rw [if_pos hm];exact ⟨_,.refl _,K s.q,by simp [go_sem],by first | exact hwk.refl _ | exact hwk.app0 _ | simp [hwk.refl],by simp [Y.len],Y.und' _,by first | rfl | simp,by first | rfl | simp [MS.q]⟩
  ·
   simp -dsimp [go_sem,hN];rw [if_neg hm];exact ⟨_,.refl _,K s.q,by simp [go_sem],by first | exact hwk.refl _ | exact hwk.app0 _ | simp [hwk.refl],by simp [Y.len],Y.und' _,by first | rfl | simp,by first | rfl | simp [MS.q]⟩
 simp -dsimp [go_sem,hN,Y.len];rw [if_neg h1];refine cnd ?_ ?_<;>intro h2<;>simp at h2
 ·
  rw [if_pos h2];simp -dsimp [go_sem,hN,Y.loc,Y.len];refine qaj (qdk (decide (a.k=1)) _) ?_;rintro r h' ⟨⟨hm,rfl⟩ | ⟨hm,rfl⟩,rfl⟩<;>simp at hm
  ·
   simp -dsimp [go_sem,hN,Y.loc,Y.len];refine qaj (c_num_Format a.n hr.1 _ g (Y.lg' _ _)) ?_;rintro r h' ⟨rfl,rfl⟩;simp -dsimp [go_sem,hN];refine qaj (c_interp_text _ _) ?_;rintro r h' ⟨rfl,rfl⟩;rw [if_pos hm,hF];cases textS (qbo a.n)<;>simp -dsimp [go_sem,hN,endV,Y.loc1,Y.sloc1,Y.len]<;>exact ⟨_,.refl _,K s.q,by simp [go_sem],by first | exact hwk.refl _ | exact hwk.app0 _ | simp [hwk.refl],by simp [Y.len],Y.und' _,by first | rfl | simp,by first | rfl | simp [MS.q]⟩
  ·
   simp -dsimp [go_sem,hN];rw [if_neg hm];exact ⟨_,.refl _,K s.q,by simp [go_sem],by first | exact hwk.refl _ | exact hwk.app0 _ | simp [hwk.refl],by simp [Y.len],Y.und' _,by first | rfl | simp,by first | rfl | simp [MS.q]⟩
 simp -dsimp [go_sem,hN,Y.len];rw [if_neg h2];refine cnd ?_ ?_<;>intro h3<;>simp at h3
 ·
  rw [if_pos h3];simp -dsimp [go_sem,hN,Y.loc,Y.len];refine qaj (qdk (decide (a.k=2)) _) ?_;rintro r h' ⟨⟨hm,rfl⟩ | ⟨hm,rfl⟩,rfl⟩<;>simp at hm
  ·
   simp -dsimp [go_sem,hN,Y.loc,Y.len];refine qaa (qdn (a.s.size:Int)) ?_;simp -dsimp [go_sem,hN,Y.loc1,Y.sloc1,Y.len];rw [if_pos hm];exact ⟨_,.refl _,K s.q,by simp [go_sem],by first | exact hwk.refl _ | exact hwk.app0 _ | simp [hwk.refl],by simp [Y.len],Y.und' _,by first | rfl | simp,by first | rfl | simp [MS.q]⟩
  ·
   simp -dsimp [go_sem,hN];rw [if_neg hm];exact ⟨_,.refl _,K s.q,by simp [go_sem],by first | exact hwk.refl _ | exact hwk.app0 _ | simp [hwk.refl],by simp [Y.len],Y.und' _,by first | rfl | simp,by first | rfl | simp [MS.q]⟩
 simp -dsimp [go_sem,hN,Y.loc,Y.len];rw [if_neg h3];refine qaj (qdk (decide (a.k=2)) _) ?_;rintro r h' ⟨⟨hm,rfl⟩ | ⟨hm,rfl⟩,rfl⟩<;>simp at hm
 rotate_left
 ·
  simp -dsimp [go_sem,hN];rw [if_neg hm];exact ⟨_,.refl _,K s.q,by simp [go_sem],by first | exact hwk.refl _ | exact hwk.app0 _ | simp [hwk.refl],by simp [Y.len],Y.und' _,by first | rfl | simp,by first | rfl | simp [MS.q]⟩
 rw [if_neg (by simpa using hm)];simp -dsimp [go_sem,hN,Y.loc,Y.len];refine qaj (c_machine_fetch (Y.ext [_,_] (by simp [hUnder,AObj.under,AV.under,qam])) s a.s ha hl) ?_;rintro r h' ⟨rfl,rfl⟩;rcases fetchS C a.s s with ⟨z | w,s'⟩
 ·
  simp -dsimp [go_sem,hN,endV];exact ⟨_,.refl _,K s'.q,by simp [go_sem],by first | exact hwk.refl _ | exact hwk.app0 _ | simp [hwk.refl],by simp [Y.len],Y.und' _,by first | rfl | simp,by first | rfl | simp [MS.q]⟩
 simp -dsimp [go_sem,hN,endV,Y.loc,Y.loc1,Y.len];simp only [gotS];refine cnd ?_ ?_<;>intro h4<;>simp at h4
 ·
  simp -dsimp [go_sem,hN,Y.loc2,Y.len];refine qaa (qbq (!decide (w.k=0))) ?_;simp -dsimp [go_sem,hN,Y.loc1,Y.sloc1,Y.len];rw [if_pos h4];exact ⟨_,.refl _,K s'.q,by simp [go_sem],by first | exact hwk.refl _ | exact hwk.app0 _ | simp [hwk.refl],by simp [Y.len],Y.und' _,by first | rfl | simp,by first | rfl | simp [MS.q]⟩
 rw [if_neg h4];simp -dsimp [go_sem,hN,Y.loc2,Y.len];refine cnd ?_ ?_<;>intro h5<;>simp at h5
 ·
  simp -dsimp [go_sem,hN];refine qaa (qdn 0) ?_;simp -dsimp [go_sem,hN,Y.loc1,Y.sloc1,Y.len];rw [if_pos h5];exact ⟨_,.refl _,K s'.q,by simp [go_sem],by first | exact hwk.refl _ | exact hwk.app0 _ | simp [hwk.refl],by simp [Y.len],Y.und' _,by first | rfl | simp,by first | rfl | simp [MS.q]⟩
 rw [if_neg (by rintro ⟨k1,k2⟩;exact h5 k1 k2)];simp -dsimp [go_sem,hN,Y.loc2,Y.len];refine cnd ?_ ?_<;>intro h6<;>simp at h6
 ·
  simp -dsimp [go_sem,hN];refine qaj (c_interp_text em _) ?_;rintro r h' ⟨rfl,rfl⟩;rw [if_pos h6];cases textS em<;>simp -dsimp [go_sem,hN,endV,Y.loc1,Y.sloc1,Y.len]<;>exact ⟨_,.refl _,K s'.q,by simp [go_sem],by first | exact hwk.refl _ | exact hwk.app0 _ | simp [hwk.refl],by simp [Y.len],Y.und' _,by first | rfl | simp,by first | rfl | simp [MS.q]⟩
 rw [if_neg (by rintro ⟨k1,k2⟩;exact h6 k1 k2)];simp -dsimp [go_sem,hN,Y.loc2,Y.len];refine cnd ?_ ?_<;>intro h7<;>simp at h7
 ·
  simp -dsimp [go_sem,hN];refine cnd (fun _=>?_) (fun hx=>by simp [h7] at hx);simp -dsimp [go_sem,hN];refine qaj (qa5 1003 _) ?_;rintro r h' ⟨rfl,rfl⟩;simp -dsimp [go_sem,hN];rw [if_pos (.inl h7)];exact ⟨_,.refl _,K s'.q,by simp [go_sem],by first | exact hwk.refl _ | exact hwk.app0 _ | simp [hwk.refl],by simp [Y.len],Y.und' _,by first | rfl | simp,by first | rfl | simp [MS.q]⟩
 simp -dsimp [go_sem,hN,Y.loc2,Y.len];refine cnd ?_ ?_<;>intro h8<;>simp at h8
 ·
  simp -dsimp [go_sem,hN];refine qaj (qa5 1003 _) ?_;rintro r h' ⟨rfl,rfl⟩;simp -dsimp [go_sem,hN];rw [if_pos (.inr h8)];exact ⟨_,.refl _,K s'.q,by simp [go_sem],by first | exact hwk.refl _ | exact hwk.app0 _ | simp [hwk.refl],by simp [Y.len],Y.und' _,by first | rfl | simp,by first | rfl | simp [MS.q]⟩
 simp -dsimp [go_sem,hN,Y.loc2,Y.loc1,Y.sloc1,Y.len];rw [if_neg (fun k=>k.elim (fun k=>k.2 (h7 k.1)) (fun k=>k.2 (h8 k.1)))];exact ⟨_,.refl _,K s'.q,by simp [go_sem],by first | exact hwk.refl _ | exact hwk.app0 _ | simp [hwk.refl],by simp [Y.len],Y.und' _,by first | rfl | simp,by first | rfl | simp [MS.q]⟩
end Go.Proofs.YtilhejdbiionhaaGreatDoor

set_option maxRecDepth 4000
set_option maxHeartbeats 4000000
namespace Go.Proofs.YtilhejdbiionhaaGreatDoor
open Go Go.Abs Go.Cw
attribute [local go_sem] mC
variable {C:Cfg} {tT:TypeId} {tx:Nat×Nat} {g m v o io ir ip:Nat}
theorem qbp (hF:C.fmt=qbo) (hC:rngC C) {K:MQ→qab} {n0:Nat} (Y:MHs C tT tx g m v o io ir ip K n0) (s:MS) (e:Ex) (hX:rngX e) (hM:rngM s) (ha:ascS s.reads) (hl:s.reads.length+nodes e≤1000000000) :
  ACalls Tryz.prog 116 [.ptr m 0,.agg e.x] (K s.q) fun r h'=>r=endV (evE C e s).1∧h'=K (evE C e s).2.q:=by
 refine qaq Tryz.func116 Tryz.ntmps116 rfl (by kernel_rfl) rfl fun E hN hh hu hb hb' hua=>?_;have hX':=(rngX_iff _).1 hX;simp [go_sem] at hb;rw [evE_eq];simp -dsimp [go_sem,hN,Y.len,Y.loc];refine cnd ?_ ?_<;>intro h1<;>simp at h1
 ·
  simp -dsimp [go_sem,hN,Y.len,Y.loc];refine qaa (qdn e.n) ?_;simp -dsimp [go_sem,hN,Y.len,Y.loc1,Y.sloc1];rw [if_pos h1];exact ⟨_,.refl _,K s.q,by simp [go_sem],by first | exact hwk.refl _ | exact hwk.app0 _ | simp [hwk.refl],by simp [Y.len],Y.und' _,by first | rfl | simp,by first | rfl | simp [MS.q]⟩
 rw [if_neg h1];simp -dsimp [go_sem,hN,Y.len,Y.loc];refine cnd ?_ ?_<;>intro h2<;>simp at h2
 ·
  simp -dsimp [go_sem,hN,Y.len,Y.loc,Y.loc1,Y.sloc1];rw [if_pos h2];exact ⟨_,.refl _,K s.q,by simp [go_sem],by first | exact hwk.refl _ | exact hwk.app0 _ | simp [hwk.refl],by simp [Y.len],Y.und' _,by first | rfl | simp,by first | rfl | simp [MS.q]⟩
 rw [if_neg h2];simp -dsimp [go_sem,hN,Y.len,Y.loc];refine cnd ?_ ?_<;>intro h3<;>simp at h3
 ·
  rw [if_pos h3];simp -dsimp [go_sem,hN];refine awp_drawG 12 mixed (by kernel_rfl) ?_;rcases hk:qbm s.vars e.s with _ | w
  ·
   simp -dsimp [go_sem,hN,Y.len,Y.loc,Y.loc1,Y.loc2,Y.sloc1,Y.sloc2,Y.lm',Y.lv',hk];refine ⟨by have:=Y.hm;simp [sepD,List.zipIdx];exact .inl (by omega),?_⟩;refine qaj (qdk false _) ?_;rintro r h' ⟨⟨hm,rfl⟩ | ⟨hm,rfl⟩,rfl⟩<;>simp at hm;simp -dsimp [go_sem,hN];exact ⟨_,.refl _,K s.q,by simp [go_sem],by first | exact hwk.refl _ | exact hwk.app0 _ | simp [hwk.refl],by simp [Y.len],Y.und' _,by first | rfl | simp,by first | rfl | simp [MS.q]⟩
  ·
   simp -dsimp [go_sem,hN,Y.len,Y.loc,Y.loc1,Y.loc2,Y.sloc1,Y.sloc2,Y.lm',Y.lv',hk];refine ⟨by have:=Y.hm;simp [sepD,List.zipIdx];exact .inl (by omega),?_⟩;refine qaj (qdk true _) ?_;rintro r h' ⟨⟨hm,rfl⟩ | ⟨hm,rfl⟩,rfl⟩<;>simp at hm;simp -dsimp [go_sem,hN,Y.len,Y.loc,Y.loc1,Y.loc2,Y.sloc1,Y.sloc2];exact ⟨_,.refl _,K s.q,by simp [go_sem],by first | exact hwk.refl _ | exact hwk.app0 _ | simp [hwk.refl],by simp [Y.len],Y.und' _,by first | rfl | simp,by first | rfl | simp [MS.q]⟩
 rw [if_neg h3];simp -dsimp [go_sem,hN,Y.len,Y.loc];have hn:=nodes_eq e;refine qat (α:=List V×MS) e.args.length (fun n a=>a.1.length=n∧(∀ v∈a.1,rngV v)∧rngM a.2∧ascS a.2.reads∧a.2.reads.length+nodesL (e.args.drop n)+1≤1000000000 ∧
   evL C e.args s=match evL C (e.args.drop n) a.2 with
    | (.error z,m')=>(.error z,m')
    | (.ok r,m')=>(.ok (a.1++r),m'))
  (fun n a=>⟨[(0,.ptr m 0),(3,.ptr n0 0),(4,.ptr (n0+1) 0),(7,.own (n0+2) a.1.length),(38,.slice (e.args.map Ex.c)),(39,I e.args.length),(40,I n)],K a.2.q++[.cells e.x,.cells [I 0,I 0,S em],.arr 54 3 (a.1.map V.c)]⟩)
  ([],s) ⟨rfl,by simp,hM,ha,by simp;omega,?_⟩ ((nil_wk E _ 7 54 3 (by simp [go_sem])).trans ?_) ?_
 ·
  simp;rcases evL C e.args s with ⟨z | r,m'⟩<;>rfl
 ·
  simp [Y.len];have:=Y.hm;exact (Wk.mk (by simp [hh,Y.len]) (by simp [go_sem]) (by simp [Y.und,Y.undA,Y.len,go_sem]) (by simp [go_sem,Y.len]<;>omega))
 rintro n ⟨acc,s'⟩ hn' ⟨hal,hav,hM',ha',hl',hI⟩;dsimp only at hal hav hM' ha' hl' hI;have hmn:=Y.hm;have hw:=qa3 hn' hb.2.1;simp -dsimp [go_sem,hN];refine cnd ?_ ?_<;>intro hc<;>simp at hc
 ·
  rw [qae hc] at hI hl';rw [nodesL_cons] at hl';rw [evL] at hI;have hlt:SizeOf.sizeOf e.args[n]<SizeOf.sizeOf e:=Ex.arg_lt (List.getElem_mem hc);simp -dsimp [go_sem,hN,hc];refine qaj (qbp hF hC (Y.ext [_,_,_,_] (by simp [hUnder,AObj.under,AV.under,qam])) s' e.args[n] (hX'.2 _ (List.getElem_mem hc)) hM' ha' (by omega)) ?_;rintro r h' ⟨rfl,rfl⟩;have hok:=evE_ok hC e.args[n] s' (hX'.2 _ (List.getElem_mem hc)) hM' ha';rcases hE:evE C e.args[n] s' with ⟨z | w,s2⟩
  ·
   rw [hE] at hI;simp only at hI;simp -dsimp [go_sem,hN,endV];rw [hI];exact ⟨_,.refl _,K s2.q,by simp [go_sem],by first | exact hwk.refl _ | exact hwk.app0 _ | simp [hwk.refl],by simp [Y.len],Y.und' _,by first | rfl | simp,by first | rfl | simp [MS.q]⟩
  ·
   rw [hE] at hI hok;simp only at hI hok;simp -dsimp [go_sem,hN,endV,Y.len,Y.loc,Y.loc1,Y.loc2,Y.loc3,Y.sloc2,hw];refine ⟨by omega,hc,acc++[w],s2,⟨by simp [hal],?_,hok.1.rng hM',hok.1.asc,by have:=hok.1.len;omega,?_⟩,(Wk.mk (by simp [hh,Y.len]) (by simp [go_sem]) (by simp [Y.und,Y.undA,Y.len,go_sem]) (by simp [go_sem,Y.len]<;>omega))⟩
   ·
    intro v hv;rcases List.mem_append.1 hv with hv | hv
    · exact hav v hv
    · simp at hv;subst hv;exact hok.2 _ rfl
   ·
    rw [hI];rcases evL C (e.args.drop (n+1)) s2 with ⟨z | r,m'⟩<;>simp
 ·
  rw [List.drop_eq_nil_of_le (by omega),evL] at hI;simp only [List.append_nil] at hI;rw [hI];have hln:acc.length=e.args.length:=by omega
  simp -dsimp [go_sem,hN,Y.len,Y.loc2];refine cnd ?_ ?_<;>intro h4<;>simp at h4
  ·
   obtain ⟨a,rfl⟩:∃ a,acc=[a]:=by
    match acc,h4 with
    | [a],_=>exact ⟨a,rfl⟩
    | [],h4=>simp at h4
    | _::_::_,h4=>simp at h4;omega
   simp -dsimp [go_sem,hN];refine qak 6 mixed (by kernel_rfl) (by kernel_rfl) ?_;simp -dsimp [go_sem,hN,Y.len,Y.loc,Y.loc1,Y.loc2,Y.sloc1]
   trace_state
   refine qaj (c_machine_unary (Y.ext [_,_,_] (by simp [hUnder,AObj.under,AV.under,qam])) hF s' e.op a ha' (by omega) (hav a (by simp))) ?_;rintro r h' ⟨rfl,rfl⟩;simp only [opS];rcases unS C e.op a s' with ⟨z | w,s2⟩<;>simp -dsimp [go_sem,hN,endV,Y.len,Y.loc,Y.loc1,Y.loc2,Y.sloc1]<;>exact ⟨_,.refl _,K s2.q,by simp [go_sem],by first | exact hwk.refl _ | exact hwk.app0 _ | simp [hwk.refl],by simp [Y.len],Y.und' _,by first | rfl | simp,by first | rfl | simp [MS.q]⟩
  simp -dsimp [go_sem,hN];refine cnd ?_ ?_<;>intro h5<;>simp at h5
  ·
   obtain ⟨a,b,rfl⟩:∃ a b,acc=[a,b]:=by
    match acc,h5 with
    | [a,b],_=>exact ⟨a,b,rfl⟩
    | [],h5=>simp at h5
    | [_],h5=>simp at h5
    | _::_::_::_,h5=>simp at h5;omega
   have hra:=(hav a (by simp)).2;have hrb:=(hav b (by simp)).2;simp -dsimp [go_sem,hN];refine qak 8 mixed (by kernel_rfl) (by kernel_rfl) ?_;simp -dsimp [go_sem,hN,Y.len,Y.loc,Y.loc1,Y.loc2,Y.sloc1]
   trace_state
   refine qaj (c_interp_binary e.op a b _ (by omega)) ?_;rintro r h' ⟨rfl,rfl⟩;simp only [opS];cases binS e.op a b<;>simp -dsimp [go_sem,hN,endV,Y.len,Y.loc,Y.loc1,Y.loc2,Y.sloc1]<;>exact ⟨_,.refl _,K s'.q,by simp [go_sem],by first | exact hwk.refl _ | exact hwk.app0 _ | simp [hwk.refl],by simp [Y.len],Y.und' _,by first | rfl | simp,by first | rfl | simp [MS.q]⟩
  simp -dsimp [go_sem,hN];refine qaj (qa5 1009 _) ?_;rintro r h' ⟨rfl,rfl⟩;simp -dsimp [go_sem,hN];have ho:opS C e.op acc s'=(.error (ab 1009),s'):=by
   match acc,h4,h5 with
   | [],_,_=>rfl
   | [_],h4,_=>simp at h4
   | [_,_],_,h5=>simp at h5
   | _::_::_::_,_,_=>rfl
  rw [ho];exact ⟨_,.refl _,K s'.q,by simp [go_sem],by first | exact hwk.refl _ | exact hwk.app0 _ | simp [hwk.refl],by simp [Y.len],Y.und' _,by first | rfl | simp,by first | rfl | simp [MS.q]⟩
termination_by SizeOf.sizeOf e
end Go.Proofs.YtilhejdbiionhaaGreatDoor
