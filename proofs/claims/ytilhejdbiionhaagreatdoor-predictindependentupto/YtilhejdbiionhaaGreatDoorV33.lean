/- Part 33 of a proof: W11, W12, W13, W19, W20 -/
import Derived.Shelf.Small.Strs
import Derived.Shelf.Strconv.Itoa4
import Derived.Lib.ItoaLen
import Derived.Test.YtilhejdbiionhaaGreatDoorV13
import Derived.Test.YtilhejdbiionhaaGreatDoorV16
import Derived.Test.YtilhejdbiionhaaGreatDoorV17
import Derived.Test.YtilhejdbiionhaaGreatDoorV22
import Derived.Test.YtilhejdbiionhaaGreatDoorV23
import Derived.Test.YtilhejdbiionhaaGreatDoorV26
import Derived.Test.YtilhejdbiionhaaGreatDoorV30
import Derived.Test.YtilhejdbiionhaaGreatDoorV32
set_option linter.all false

set_option maxRecDepth 4000
namespace Go.Proofs.YtilhejdbiionhaaGreatDoor
open Go Go.Abs Go.Cw
theorem c_num_Neg (a:Int):APure Tryz.prog 215 [I a] (.tuple [I (numNeg a).1,I (numNeg a).2]):=by
 refine qap Tryz.func215 Tryz.ntmps215 rfl (by kernel_rfl) rfl rfl fun E h hN hh hu hb=>?_;simp -dsimp [go_sem,hN];refine cnd ?_ ?_<;>intro h0<;>simp at h0<;>simp -dsimp [go_sem,hN,numNeg,h0]
theorem c_num_Add (a b:Int):APure Tryz.prog 254 [I a,I b] (.tuple [I (numAdd a b).1,I (numAdd a b).2]):=by
 refine qap Tryz.func254 Tryz.ntmps254 rfl (by kernel_rfl) rfl rfl fun E h hN hh hu hb=>?_;simp -dsimp [go_sem,hN]
 repeat refine ⟨by grind,?_⟩
 refine cnd ?_ ?_<;>intro h0<;>simp at h0<;>simp -dsimp [go_sem,hN]<;>grind [numAdd]
theorem c_num_Sub (a b:Int):APure Tryz.prog 156 [I a,I b] (.tuple [I (numSub a b).1,I (numSub a b).2]):=by
 refine qap Tryz.func156 Tryz.ntmps156 rfl (by kernel_rfl) rfl rfl fun E h hN hh hu hb=>?_;simp -dsimp [go_sem,hN]
 repeat refine ⟨by grind,?_⟩
 refine cnd ?_ ?_<;>intro h0<;>simp at h0<;>simp -dsimp [go_sem,hN]<;>grind [numSub]
theorem c_num_Mul (a b:Int):APure Tryz.prog 255 [I a,I b] (.tuple [I (numMul a b).1,I (numMul a b).2]):=by
 refine qap Tryz.func255 Tryz.ntmps255 rfl (by kernel_rfl) rfl rfl fun E h hN hh hu hb=>?_;simp -dsimp [go_sem,hN]
 repeat refine ⟨by grind,?_⟩
 refine cnd ?_ ?_<;>intro h0<;>simp at h0<;>simp -dsimp [go_sem,hN]
 · grind [numMul]
 refine cnd ?_ ?_<;>intro h1<;>simp at h1<;>simp -dsimp [go_sem,hN]
 ·
  refine qaa (c_num_Neg b) ?_;simp -dsimp [go_sem,hN];grind [numMul]
 refine cnd ?_ ?_<;>intro h2<;>simp at h2<;>simp -dsimp [go_sem,hN]
 ·
  refine qaa (c_num_Neg a) ?_;simp -dsimp [go_sem,hN];grind [numMul]
 repeat refine ⟨by grind,?_⟩
 refine cnd ?_ ?_<;>intro h3<;>simp at h3<;>simp -dsimp [go_sem,hN]<;>grind [numMul]
theorem c_num_Div (a b:Int):APure Tryz.prog 256 [I a,I b] (.tuple [I (numDiv a b).1,I (numDiv a b).2]):=by
 refine qap Tryz.func256 Tryz.ntmps256 rfl (by kernel_rfl) rfl rfl fun E h hN hh hu hb=>?_;simp -dsimp [go_sem,hN];refine cnd ?_ ?_<;>intro h0<;>simp at h0<;>simp -dsimp [go_sem,hN]
 · grind [numDiv]
 refine cnd ?_ ?_<;>intro h1<;>simp at h1<;>simp -dsimp [go_sem,hN]
 ·
  refine qaa (c_num_Neg a) ?_;simp -dsimp [go_sem,hN];grind [numDiv]
 repeat refine ⟨by grind,?_⟩
 refine cnd ?_ ?_<;>intro h3<;>simp at h3<;>simp -dsimp [go_sem,hN]<;>grind [numDiv]
theorem c_num_Mod (a b:Int):APure Tryz.prog 257 [I a,I b] (.tuple [I (numMod a b).1,I (numMod a b).2]):=by
 refine qap Tryz.func257 Tryz.ntmps257 rfl (by kernel_rfl) rfl rfl fun E h hN hh hu hb=>?_;simp -dsimp [go_sem,hN];refine cnd ?_ ?_<;>intro h0<;>simp at h0<;>simp -dsimp [go_sem,hN]
 · grind [numMod]
 refine cnd ?_ ?_<;>intro h1<;>simp at h1<;>simp -dsimp [go_sem,hN]
 · grind [numMod]
 repeat refine ⟨by grind,?_⟩
 refine cnd ?_ ?_<;>intro h3<;>simp at h3<;>simp -dsimp [go_sem,hN]<;>grind [numMod]
theorem c_cmp_isNaN (a:Int):APure Tryz.prog 293 [I a] (Bo false):=by
 refine qap Tryz.func293 Tryz.ntmps293 rfl (by kernel_rfl) rfl rfl fun E h hN hh hu hb=>?_;simp -dsimp [go_sem,hN]
theorem c_cmp_isNaN64 (a:Int):APure Tryz.prog 308 [I a] (Bo false):=by
 refine qap Tryz.func308 Tryz.ntmps308 rfl (by kernel_rfl) rfl rfl fun E h hN hh hu hb=>?_;simp -dsimp [go_sem,hN]
theorem c_cmp_Compare (a b:Int):APure Tryz.prog 275 [I a,I b] (I (cmpI a b)):=by
 refine qap Tryz.func275 Tryz.ntmps275 rfl (by kernel_rfl) rfl rfl fun E h hN hh hu hb=>?_;simp -dsimp [go_sem,hN];refine qaa (c_cmp_isNaN a) ?_;simp -dsimp [go_sem,hN];refine qaa (c_cmp_isNaN b) ?_;simp -dsimp [go_sem,hN];refine cnd ?_ ?_<;>intro h0<;>simp at h0<;>simp -dsimp [go_sem,hN]
 · grind [cmpI]
 refine cnd ?_ ?_<;>intro h1<;>simp at h1<;>simp -dsimp [go_sem,hN]<;>grind [cmpI]
theorem c_cmp_Compare64 (a b:Int):APure Tryz.prog 294 [I a,I b] (I (cmpI a b)):=by
 refine qap Tryz.func294 Tryz.ntmps294 rfl (by kernel_rfl) rfl rfl fun E h hN hh hu hb=>?_;simp -dsimp [go_sem,hN];refine qaa (c_cmp_isNaN64 a) ?_;simp -dsimp [go_sem,hN];refine qaa (c_cmp_isNaN64 b) ?_;simp -dsimp [go_sem,hN];refine cnd ?_ ?_<;>intro h0<;>simp at h0<;>simp -dsimp [go_sem,hN]
 · grind [cmpI]
 refine cnd ?_ ?_<;>intro h1<;>simp at h1<;>simp -dsimp [go_sem,hN]<;>grind [cmpI]
theorem c_pair_numbers (u v:V):APure Tryz.prog 276 [.agg [I u.k,I u.n,S u.s,I v.k,I v.n,S v.s]] (I (cmpI u.n v.n)):=by
 refine qap Tryz.func276 Tryz.ntmps276 rfl (by kernel_rfl) rfl rfl fun E h hN hh hu hb=>?_;simp -dsimp [go_sem,hN];refine qaa (c_cmp_Compare64 u.n v.n) ?_;simp -dsimp [go_sem,hN]
end Go.Proofs.YtilhejdbiionhaaGreatDoor

set_option maxRecDepth 4000
namespace Go.Proofs.YtilhejdbiionhaaGreatDoor
open Go Go.Abs Go.Cw Go.Shelf
def renC:Ren:=⟨fun | 106=>295 | 213=>309 | 265=>312 | x=>x,fun | 3=>3 | 9=>9 | x=>x,fun x=>x⟩
theorem laysC:Lays.n106 Tryz.prog renC where
 mixed:=by kernel_rfl
 f106:=by kernel_rfl
 f213:=by kernel_rfl
 f265:=by kernel_rfl
 t3:=by kernel_rfl
 a3:=fun _=>by kernel_rfl
 z3:=fun _=>by kernel_rfl
 v3:=fun _=>by kernel_rfl
 t9:=by kernel_rfl
 a9:=fun _=>by kernel_rfl
 z9:=fun _=>by kernel_rfl
 v9:=fun _=>by kernel_rfl
theorem c_strings_Compare (a b:qac):APure Tryz.prog 295 [S a,S b] (I (cmpS a b)) :=
 apure_calls (l:=[.string a,.string b]) (r:=.int .i64 (cmpS a b)) rfl ⟨_,laysC.f106,rfl,rfl⟩ fun w=>Any.strings_Compare laysC a b w
theorem c_pair_strings (u v:V):APure Tryz.prog 277 [.agg [I u.k,I u.n,S u.s,I v.k,I v.n,S v.s]] (I (cmpS u.s v.s)):=by
 refine qap Tryz.func277 Tryz.ntmps277 rfl (by kernel_rfl) rfl rfl fun E h hN hh hu hb=>?_;simp -dsimp [go_sem,hN];refine qaa (c_strings_Compare u.s v.s) ?_;simp -dsimp [go_sem,hN]
theorem c_value_Compare (u v:V):APure Tryz.prog 258 [.agg u.c,.agg v.c] (I (cmpV u v)):=by
 refine qap Tryz.func258 Tryz.ntmps258 rfl (by kernel_rfl) rfl rfl fun E h hN hh hu hb=>?_;simp -dsimp [go_sem,hN];refine cnd ?_ ?_<;>intro h0<;>simp at h0<;>simp -dsimp [go_sem,hN]
 ·
  refine qaa (c_cmp_Compare u.k v.k) ?_;simp -dsimp [go_sem,hN];simp [cmpV,h0]
 refine cnd ?_ ?_<;>intro h1<;>simp at h1<;>simp -dsimp [go_sem,hN]
 ·
  refine qaa (c_pair_strings u v) ?_;simp -dsimp [go_sem,hN];simp [cmpV,h0,h1]
 ·
  refine qaa (c_pair_numbers u v) ?_;simp -dsimp [go_sem,hN];simp [cmpV,h0,h1]
end Go.Proofs.YtilhejdbiionhaaGreatDoor

set_option maxRecDepth 4000
namespace Go.Proofs.YtilhejdbiionhaaGreatDoor
open Go Go.Abs Go.Cw
@[go_sem] theorem zero_int:zeroAV Tryz.prog 3=some (I 0):=by kernel_rfl
@[go_sem] theorem zero_bool:zeroAV Tryz.prog 4=some (Bo false):=by kernel_rfl
@[go_sem] theorem zero_Value:zeroAV Tryz.prog 54=some (.agg [I 0,I 0,S ⟨#[]⟩]):=by kernel_rfl
theorem c_types_of (vars:List (qac×Int)) (e:Ex) (d:Nat) (hv:chkE e d=0) (h:qab) (m:Nat) (hm:h[m]?=some (.map (kAV I vars))) :
  ACalls Tryz.prog 270 [.agg e.x,.mapr m] h fun r h'=>r=.ret (.tuple [I (ofE vars e).1,I (ofE vars e).2])∧h'=h:=by
 refine qaq Tryz.func270 Tryz.ntmps270 rfl (by kernel_rfl) rfl fun E hN hh hu hb hb' hua=>?_;simp [go_sem] at hb;have hml:m<h.length:=(List.getElem?_eq_some_iff.1 hm).1;have a1:∀ l:qab,(h++l)[m]?=h[m]?:=fun l=>List.getElem?_append_left hml;simp -dsimp [go_sem,hN];refine cnd ?_ ?_<;>intro h0<;>simp at h0
 ·
  have ho:ofE vars e=varT (qbm vars e.s):=by rw [ofE_eq,if_pos h0]
  rcases hk:qbm vars e.s with _ | ty
  ·
   rw [hk] at ho;simp -dsimp [go_sem,hN,a1,hm,hk];rw [ho];exact ⟨_,.refl _,h,by simp [go_sem],by simp [go_sem],by simp,by simp [hu,go_sem],rfl,rfl⟩
  ·
   rw [hk] at ho;simp -dsimp [go_sem,hN,a1,hm,hk]
   repeat refine ⟨by grind,?_⟩
   refine cnd ?_ ?_<;>intro h1<;>simp at h1
   ·
    simp -dsimp [go_sem,hN];rw [ho,varT,if_pos (by omega)];exact ⟨_,.refl _,h,by simp [go_sem],by simp [go_sem],by simp,by simp [hu,go_sem],rfl,rfl⟩
   ·
    simp -dsimp [go_sem,hN];rw [ho,varT,if_neg (by omega)];exact ⟨_,.refl _,h,by simp [go_sem],by simp [go_sem],by simp,by simp [hu,go_sem],rfl,rfl⟩
 simp -dsimp [go_sem,hN];refine qat (α:=List Int) e.args.length (fun n o=>((ofL vars e.args).1=(ofL vars (e.args.drop n)).1∧((ofL vars e.args).1=0→(ofL vars e.args).2=o++(ofL vars (e.args.drop n)).2))∧o.length=n) (fun n o=>⟨[(1,.mapr m),(2,.ptr h.length 0),(8,.own (h.length+1) o.length),(39,.slice (e.args.map Ex.c)),(40,I e.args.length),(41,I n)],h++[.cells e.x,.arr 3 1 (o.map iRow)]⟩) [] (by simp) ((nil_wk E _ 8 3 1 rfl).trans ?_) ?_
 · exact (Wk.mk (by simp [hh]) (by simp [go_sem]) (by simp [hu,qal hu,go_sem]) (by simp [go_sem];omega))
 intro n o hn ⟨⟨hI1,hI2⟩,hol⟩;have hw:=qa3 hn hb.2.1;simp -dsimp [go_sem,hN];refine cnd ?_ ?_<;>intro hc<;>simp at hc
 ·
  have hlt:SizeOf.sizeOf e.args[n]<SizeOf.sizeOf e:=Ex.arg_lt (List.getElem_mem hc);rw [qae hc,ofL] at hI1 hI2;simp -dsimp [go_sem,hN,hc];refine qaj (c_types_of vars e.args[n] (d+1) (chkE_args hv _ (List.getElem_mem hc)) _ m (by rw [a1];exact hm)) ?_;rintro r h' ⟨rfl,rfl⟩;simp -dsimp [go_sem,hN];refine cnd ?_ ?_<;>intro h1<;>simp at h1
  ·
   simp -dsimp [go_sem,hN];rw [if_pos h1] at hI1;simp only at hI1;have ho:ofE vars e=(0,(ofE vars e.args[n]).2):=by rw [ofE_eq vars e,if_neg h0,if_pos (by rw [hI1];exact h1),hI1]
   rw [ho];exact ⟨_,.refl _,h,by simp [go_sem],by simp [go_sem],by simp,by simp [hu,go_sem],rfl,rfl⟩
  ·
   rw [if_neg (by simpa using h1)] at hI1 hI2;simp only at hI1 hI2;simp -dsimp [go_sem,hN,hw];refine ⟨by omega,hc,o++[(ofE vars e.args[n]).1],⟨⟨hI1,fun h2=>by rw [hI2 h2];simp⟩,by simp;omega⟩,?_⟩;exact (Wk.mk (by simp [hh]) (by simp [go_sem]) (by simp [hu,qal hu,go_sem]) (by simp [go_sem];omega))
 rw [List.drop_eq_nil_of_le (by omega),ofL] at hI1 hI2;simp only at hI1 hI2;have hI3:=hI2 hI1;rw [List.append_nil] at hI3;have hoe:=ofE_eq vars e;rw [if_neg h0,hI1,if_neg (by simp),hI3] at hoe;have har:=chkE_arity hv;simp -dsimp [go_sem,hN];refine cnd ?_ ?_<;>intro h1<;>simp at h1
 ·
  rw [if_pos h1] at hoe;have h2:o.length=2:=by
   have:qb6 e.op=2:=by unfold qb6;rw [if_neg (by omega),if_neg (by omega),if_neg (by omega)]
   omega
  obtain ⟨x,y,rfl⟩:∃ x y,o=[x,y]:=by
   match o,h2 with
   | [x,y],_=>exact ⟨x,y,rfl⟩
  simp at hoe;simp -dsimp [go_sem,hN];refine qak 13 mixed (by kernel_rfl) (by kernel_rfl) ?_;simp -dsimp [go_sem,hN,iRow];refine qaf (c_types_compared e.op x) (by simp) ?_;simp -dsimp [go_sem,hN]
  repeat refine ⟨by grind,?_⟩
  refine cnd (fun h3=>?_) (fun h3=>?_)
  ·
   simp -dsimp [go_sem,hN];rw [hoe,if_pos (by simp at h3;grind)];exact ⟨_,.refl _,h,by simp [go_sem],by simp [go_sem],by simp,by simp [hu,go_sem],rfl,rfl⟩
  ·
   simp -dsimp [go_sem,hN];rw [hoe,if_neg (by simp at h3;grind)];exact ⟨_,.refl _,h,by simp [go_sem],by simp [go_sem],by simp,by simp [hu,go_sem],rfl,rfl⟩
 rw [if_neg (by omega)] at hoe;simp -dsimp [go_sem,hN];refine qaa (c_types_signature e.op) ?_;simp -dsimp [go_sem,hN];refine qao o.length (fun n=>(o.drop n).all (fun t=>decide (t=(qcr e.op).1))=o.all (fun t=>decide (t=(qcr e.op).1))) (fun n=>⟨[(13,I (qcr e.op).1),(14,I (qcr e.op).2),(89,.slice (o.map iRow)),(90,I o.length),(91,I n)],h⟩) (by simp) ((norm_wk E _).trans ?_) ?_
 · exact (Wk.mk (by simp [hh]) (by simp [go_sem]) (by simp [hu,qal hu,go_sem]) (by simp [go_sem];try omega))
 intro n hn hJ;have hw:=qa3 hn (by omega);simp -dsimp [go_sem,hN];refine cnd ?_ ?_<;>intro hc<;>simp at hc
 ·
  rw [qae hc,List.all_cons] at hJ;simp -dsimp [go_sem,hN,hc,iRow];refine cnd ?_ ?_<;>intro h3<;>simp at h3
  ·
   simp -dsimp [go_sem,hN];rw [hoe,if_neg (by rw [← hJ];simp [h3])];exact ⟨_,.refl _,h,by simp [go_sem],by simp [go_sem],by simp,by simp [hu,go_sem],rfl,rfl⟩
  ·
   simp -dsimp [go_sem,hN,hw];refine ⟨hc,by simpa [h3] using hJ,?_⟩;exact (Wk.mk (by simp [hh]) (by simp [go_sem]) (by simp [hu,qal hu,go_sem]) (by simp [go_sem];try omega))
 ·
  rw [List.drop_eq_nil_of_le (by omega)] at hJ;simp -dsimp [go_sem,hN];rw [hoe,if_pos (by rw [← hJ];rfl)];exact ⟨_,.refl _,h,by simp [go_sem],by simp [go_sem],by simp,by simp [hu,go_sem],rfl,rfl⟩
termination_by SizeOf.sizeOf e
end Go.Proofs.YtilhejdbiionhaaGreatDoor

set_option maxRecDepth 4000
set_option maxHeartbeats 2000000
namespace Go.Proofs.YtilhejdbiionhaaGreatDoor
open Go Go.Abs Go.Cw
def stopAV (z:Stop):AV:=.iface 87 (.agg [I z.status,I z.code,.slice [],S z.miss])
@[simp] theorem norm_stop (h:qab) (z:Stop):(stopAV z).norm h=stopAV z:=by simp [stopAV,AV.norm,qbf]
@[simp] theorem under_stop (n:Nat) (z:Stop):(stopAV z).under n=true:=by simp [stopAV,AV.under,qam]
def endV:EV→AEnd
 | .ok v=>.ret (.agg v.c)
 | .error z=>.panic (stopAV z)
def endU:Except Stop Unit→AEnd
 | .ok _=>.ret (.tuple [])
 | .error z=>.panic (stopAV z)
theorem qa5 (code:Int) (h:qab):ACalls Tryz.prog 115 [I code] h fun r h'=>r=.panic (stopAV (ab code))∧h'=h:=by
 refine qaq Tryz.func115 Tryz.ntmps115 rfl (by kernel_rfl) rfl fun E hN hh hu hb hb' hua=>?_;simp -dsimp [go_sem,hN];exact ⟨_,.refl _,h,by simp [go_sem],hwk.refl _,Nat.le_refl _,hu,rfl,rfl⟩
theorem qdn (n:Int):APure Tryz.prog 173 [I n] (.agg (vI n).c):=by
 refine qap Tryz.func173 Tryz.ntmps173 rfl (by kernel_rfl) rfl rfl fun E h hN hh hu hb=>?_;simp -dsimp [go_sem,hN];exact ⟨rfl,rfl,rfl⟩
theorem qbq (b:Bool):APure Tryz.prog 216 [Bo b] (.agg (vB b).c):=by
 refine qap Tryz.func216 Tryz.ntmps216 rfl (by kernel_rfl) rfl rfl fun E h hN hh hu hb=>?_;simp -dsimp [go_sem,hN];refine cnd (fun h0=>?_) (fun h0=>?_)
 ·
  subst h0;simp -dsimp [go_sem,hN];exact ⟨rfl,rfl,rfl⟩
 ·
  subst h0;simp -dsimp [go_sem,hN];exact ⟨rfl,rfl,rfl⟩
theorem c_interp_must (b:Bool) (h:qab):ACalls Tryz.prog 117 [Bo b] h fun r h'=>r=(if b then .ret (.tuple []) else .panic (stopAV (ab 1009)))∧h'=h:=by
 refine qaq Tryz.func117 Tryz.ntmps117 rfl (by kernel_rfl) rfl fun E hN hh hu hb hb' hua=>?_;simp -dsimp [go_sem,hN];refine cnd ?_ ?_<;>intro h0<;>simp at h0<;>subst h0
 ·
  simp -dsimp [go_sem,hN];refine qaj (qa5 1009 h) ?_;rintro r h' ⟨rfl,rfl⟩;simp -dsimp [go_sem,hN];exact ⟨_,.refl _,_,by simp,hwk.refl _,Nat.le_refl _,hu,rfl,rfl⟩
 ·
  simp -dsimp [go_sem,hN];exact ⟨_,.refl _,_,by simp [go_sem],hwk.refl _,Nat.le_refl _,hu,rfl,rfl⟩
theorem c_interp_restart (k:qac) (h:qab):ACalls Tryz.prog 177 [S k] h fun r h'=>r=.panic (stopAV (rst k))∧h'=h:=by
 refine qaq Tryz.func177 Tryz.ntmps177 rfl (by kernel_rfl) rfl fun E hN hh hu hb hb' hua=>?_;simp -dsimp [go_sem,hN];exact ⟨_,.refl _,h,by simp [go_sem],hwk.refl _,Nat.le_refl _,hu,rfl,rfl⟩
theorem c_interp_text (s:qac) (h:qab):ACalls Tryz.prog 217 [S s] h fun r h'=>r=endV (textS s)∧h'=h:=by
 refine qaq Tryz.func217 Tryz.ntmps217 rfl (by kernel_rfl) rfl fun E hN hh hu hb hb' hua=>?_;simp -dsimp [go_sem,hN];refine cnd ?_ ?_<;>intro h0<;>simp at h0
 ·
  simp -dsimp [go_sem,hN];refine qaj (qa5 1006 _) ?_;rintro r h' ⟨rfl,rfl⟩;simp -dsimp [go_sem,hN];rw [textS,if_pos (by omega)];exact ⟨_,.refl _,_,by simp [go_sem],by simp [go_sem],by simp,by simp [hu,go_sem],rfl,rfl⟩
 ·
  simp -dsimp [go_sem,hN];rw [textS,if_neg (by omega)];exact ⟨_,.refl _,h,by simp [go_sem],by simp [go_sem],by simp,by simp [hu,go_sem],rfl,rfl⟩
theorem qcy (r:Int×Int) (h:qab):ACalls Tryz.prog 214 [I r.1,I r.2] h fun x h'=>x=endV (qdt r)∧h'=h:=by
 refine qaq Tryz.func214 Tryz.ntmps214 rfl (by kernel_rfl) rfl fun E hN hh hu hb hb' hua=>?_;simp -dsimp [go_sem,hN];refine cnd ?_ ?_<;>intro h0<;>simp at h0
 ·
  simp -dsimp [go_sem,hN];refine qaa (qdn r.1) ?_;simp -dsimp [go_sem,hN];rw [qdt,if_pos h0];exact ⟨_,.refl _,h,by simp [go_sem],by simp [go_sem],by simp,by simp [hu,go_sem],rfl,rfl⟩
 simp -dsimp [go_sem,hN];refine cnd ?_ ?_<;>intro h1<;>simp at h1
 ·
  simp -dsimp [go_sem,hN];refine qaj (qa5 1002 _) ?_;rintro r' h' ⟨rfl,rfl⟩;simp -dsimp [go_sem,hN];rw [qdt,if_neg h0,if_pos h1];exact ⟨_,.refl _,h,by simp [go_sem],by simp [go_sem],by simp,by simp [hu,go_sem],rfl,rfl⟩
 ·
  simp -dsimp [go_sem,hN];refine qaj (qa5 1001 _) ?_;rintro r' h' ⟨rfl,rfl⟩;simp -dsimp [go_sem,hN];rw [qdt,if_neg h0,if_neg h1];exact ⟨_,.refl _,h,by simp [go_sem],by simp [go_sem],by simp,by simp [hu,go_sem],rfl,rfl⟩
theorem qce (op a b:Int) (h:qab):ACalls Tryz.prog 220 [I op,I a,I b] h fun x h'=>x=endV (arithS op a b)∧h'=h:=by
 refine qaq Tryz.func220 Tryz.ntmps220 rfl (by kernel_rfl) rfl fun E hN hh hu hb hb' hua=>?_;simp -dsimp [go_sem,hN];refine cnd ?_ ?_<;>intro h0<;>simp at h0
 ·
  simp -dsimp [go_sem,hN];refine qaa (c_num_Add a b) ?_;simp -dsimp [go_sem,hN];refine qaj (qcy (numAdd a b) _) ?_;rintro r' h' ⟨rfl,rfl⟩;rw [arithS, if_pos h0];cases qdt (numAdd a b)<;>simp -dsimp [go_sem,hN,endV]<;>exact ⟨_,.refl _,h,by simp [go_sem],by simp [go_sem],by simp,by simp [hu,go_sem],rfl,rfl⟩
 simp -dsimp [go_sem,hN];refine cnd ?_ ?_<;>intro h1<;>simp at h1
 ·
  simp -dsimp [go_sem,hN];refine qaa (c_num_Sub a b) ?_;simp -dsimp [go_sem,hN];refine qaj (qcy (numSub a b) _) ?_;rintro r' h' ⟨rfl,rfl⟩;rw [arithS,if_neg h0,if_pos h1];cases qdt (numSub a b)<;>simp -dsimp [go_sem,hN,endV]<;>exact ⟨_,.refl _,h,by simp [go_sem],by simp [go_sem],by simp,by simp [hu,go_sem],rfl,rfl⟩
 simp -dsimp [go_sem,hN];refine cnd ?_ ?_<;>intro h2<;>simp at h2
 ·
  simp -dsimp [go_sem,hN];refine qaa (c_num_Mul a b) ?_;simp -dsimp [go_sem,hN];refine qaj (qcy (numMul a b) _) ?_;rintro r' h' ⟨rfl,rfl⟩;rw [arithS,if_neg h0,if_neg h1,if_pos h2];cases qdt (numMul a b)<;>simp -dsimp [go_sem,hN,endV]<;>exact ⟨_,.refl _,h,by simp [go_sem],by simp [go_sem],by simp,by simp [hu,go_sem],rfl,rfl⟩
 simp -dsimp [go_sem,hN];refine cnd ?_ ?_<;>intro h3<;>simp at h3
 ·
  simp -dsimp [go_sem,hN];refine qaa (c_num_Div a b) ?_;simp -dsimp [go_sem,hN];refine qaj (qcy (numDiv a b) _) ?_;rintro r' h' ⟨rfl,rfl⟩;rw [arithS,if_neg h0,if_neg h1,if_neg h2,if_pos h3];cases qdt (numDiv a b)<;>simp -dsimp [go_sem,hN,endV]<;>exact ⟨_,.refl _,h,by simp [go_sem],by simp [go_sem],by simp,by simp [hu,go_sem],rfl,rfl⟩
 simp -dsimp [go_sem,hN];refine qaa (c_num_Mod a b) ?_;simp -dsimp [go_sem,hN];refine qaj (qcy (numMod a b) _) ?_;rintro r' h' ⟨rfl,rfl⟩;rw [arithS,if_neg h0,if_neg h1,if_neg h2,if_neg h3];cases qdt (numMod a b)<;>simp -dsimp [go_sem,hN,endV]<;>exact ⟨_,.refl _,h,by simp [go_sem],by simp [go_sem],by simp,by simp [hu,go_sem],rfl,rfl⟩
theorem qdk (b:Bool) (h:qab):ACalls Tryz.prog 117 [Bo b] h fun r h'=>((b=true∧r=.ret (.tuple []))∨(b=false∧r=.panic (stopAV (ab 1009))))∧h'=h :=
 (c_interp_must b h).mono (by
  rintro r h' ⟨rfl,rfl⟩;cases b
  · exact ⟨.inr ⟨rfl,rfl⟩,rfl⟩
  · exact ⟨.inl ⟨rfl,rfl⟩,rfl⟩)
theorem c_interp_compare (op:Int) (a b:V) (h:qab):ACalls Tryz.prog 221 [I op,.agg a.c,.agg b.c] h fun x h'=>x=endV (compS op a b)∧h'=h:=by
 refine qaq Tryz.func221 Tryz.ntmps221 rfl (by kernel_rfl) rfl fun E hN hh hu hb hb' hua=>?_;simp -dsimp [go_sem,hN]
 repeat refine ⟨by grind,?_⟩
 refine qaj (qdk _ _) ?_;rintro r h' ⟨⟨hm,rfl⟩ | ⟨hm,rfl⟩,rfl⟩<;>simp at hm
 rotate_left
 ·
  simp -dsimp [go_sem,hN];rw [compS,if_neg (by grind)];exact ⟨_,.refl _,h,by simp [go_sem],by simp [go_sem],by simp,by simp [hu,go_sem],rfl,rfl⟩
 rw [compS,if_pos (by grind)];simp -dsimp [go_sem,hN];refine qaa (c_value_Compare a b) ?_;simp -dsimp [go_sem,hN];refine cnd ?_ ?_<;>intro h0<;>simp at h0
 ·
  simp -dsimp [go_sem,hN];refine qaa (qbq (decide (cmpV a b=0))) ?_;simp -dsimp [go_sem,hN];rw [cmpBy, if_pos h0];exact ⟨_,.refl _,h,by simp [go_sem],by simp [go_sem],by simp,by simp [hu,go_sem],rfl,rfl⟩
 simp -dsimp [go_sem,hN];refine cnd ?_ ?_<;>intro h1<;>simp at h1
 ·
  simp -dsimp [go_sem,hN];refine qaa (qbq (!decide (cmpV a b=0))) ?_;simp -dsimp [go_sem,hN];rw [cmpBy,if_neg h0,if_pos h1];exact ⟨_,.refl _,h,by simp [go_sem],by simp [go_sem],by simp,by simp [hu,go_sem],rfl,rfl⟩
 simp -dsimp [go_sem,hN];refine cnd ?_ ?_<;>intro h2<;>simp at h2
 ·
  simp -dsimp [go_sem,hN];refine qaa (qbq (decide (cmpV a b<0))) ?_;simp -dsimp [go_sem,hN];rw [cmpBy,if_neg h0,if_neg h1,if_pos h2];exact ⟨_,.refl _,h,by simp [go_sem],by simp [go_sem],by simp,by simp [hu,go_sem],rfl,rfl⟩
 simp -dsimp [go_sem,hN];refine cnd ?_ ?_<;>intro h3<;>simp at h3
 ·
  simp -dsimp [go_sem,hN];refine qaa (qbq (decide (cmpV a b≤0))) ?_;simp -dsimp [go_sem,hN];rw [cmpBy,if_neg h0,if_neg h1,if_neg h2,if_pos h3];exact ⟨_,.refl _,h,by simp [go_sem],by simp [go_sem],by simp,by simp [hu,go_sem],rfl,rfl⟩
 simp -dsimp [go_sem,hN];refine cnd ?_ ?_<;>intro h4<;>simp at h4
 ·
  simp -dsimp [go_sem,hN];refine qaa (qbq (decide (0<cmpV a b))) ?_;simp -dsimp [go_sem,hN];rw [cmpBy,if_neg h0,if_neg h1,if_neg h2,if_neg h3,if_pos h4];exact ⟨_,.refl _,h,by simp [go_sem],by simp [go_sem],by simp,by simp [hu,go_sem],rfl,rfl⟩
 simp -dsimp [go_sem,hN];refine qaa (qbq (decide (0≤cmpV a b))) ?_;simp -dsimp [go_sem,hN];rw [cmpBy,if_neg h0,if_neg h1,if_neg h2,if_neg h3,if_neg h4];exact ⟨_,.refl _,h,by simp [go_sem],by simp [go_sem],by simp,by simp [hu,go_sem],rfl,rfl⟩
theorem c_interp_binary (op:Int) (a b:V) (h:qab) (hS:a.s.size+b.s.size≤68719476736):ACalls Tryz.prog 175 [I op,.agg a.c,.agg b.c] h fun x h'=>x=endV (binS op a b)∧h'=h:=by
 refine qaq Tryz.func175 Tryz.ntmps175 rfl (by kernel_rfl) rfl fun E hN hh hu hb hb' hua=>?_;simp -dsimp [go_sem,hN];refine cnd ?_ ?_<;>intro h0<;>simp at h0
 ·
  simp -dsimp [go_sem,hN,decide_eq_true h0]
  repeat refine ⟨by grind,?_⟩
  refine qaj (qdk _ _) ?_;rintro r h' ⟨⟨hm,rfl⟩ | ⟨hm,rfl⟩,rfl⟩<;>simp at hm
  ·
   simp -dsimp [go_sem,hN];refine qaj (qce op a.n b.n _) ?_;rintro r' h' ⟨rfl,rfl⟩;rw [binS,if_pos (by omega),if_pos (by grind)];cases arithS op a.n b.n<;>simp -dsimp [go_sem,hN,endV]<;>exact ⟨_,.refl _,h,by simp [go_sem],by simp [go_sem],by simp,by simp [hu,go_sem],rfl,rfl⟩
  ·
   simp -dsimp [go_sem,hN];rw [binS,if_pos (by omega),if_neg (by grind)];exact ⟨_,.refl _,h,by simp [go_sem],by simp [go_sem],by simp,by simp [hu,go_sem],rfl,rfl⟩
 simp -dsimp [go_sem,hN];refine cnd ?_ ?_<;>intro h1<;>simp at h1
 ·
  simp -dsimp [go_sem,hN,decide_eq_true h1]
  repeat refine ⟨by grind,?_⟩
  refine qaj (qdk _ _) ?_;rintro r h' ⟨⟨hm,rfl⟩ | ⟨hm,rfl⟩,rfl⟩<;>simp at hm
  ·
   simp -dsimp [go_sem,hN];refine qaj (qce op a.n b.n _) ?_;rintro r' h' ⟨rfl,rfl⟩;rw [binS,if_pos (by omega),if_pos (by grind)];cases arithS op a.n b.n<;>simp -dsimp [go_sem,hN,endV]<;>exact ⟨_,.refl _,h,by simp [go_sem],by simp [go_sem],by simp,by simp [hu,go_sem],rfl,rfl⟩
  ·
   simp -dsimp [go_sem,hN];rw [binS,if_pos (by omega),if_neg (by grind)];exact ⟨_,.refl _,h,by simp [go_sem],by simp [go_sem],by simp,by simp [hu,go_sem],rfl,rfl⟩
 simp -dsimp [go_sem,hN];refine cnd ?_ ?_<;>intro h2<;>simp at h2
 ·
  simp -dsimp [go_sem,hN,decide_eq_true h2]
  repeat refine ⟨by grind,?_⟩
  refine qaj (qdk _ _) ?_;rintro r h' ⟨⟨hm,rfl⟩ | ⟨hm,rfl⟩,rfl⟩<;>simp at hm
  ·
   simp -dsimp [go_sem,hN];refine qaj (qce op a.n b.n _) ?_;rintro r' h' ⟨rfl,rfl⟩;rw [binS,if_pos (by omega),if_pos (by grind)];cases arithS op a.n b.n<;>simp -dsimp [go_sem,hN,endV]<;>exact ⟨_,.refl _,h,by simp [go_sem],by simp [go_sem],by simp,by simp [hu,go_sem],rfl,rfl⟩
  ·
   simp -dsimp [go_sem,hN];rw [binS,if_pos (by omega),if_neg (by grind)];exact ⟨_,.refl _,h,by simp [go_sem],by simp [go_sem],by simp,by simp [hu,go_sem],rfl,rfl⟩
 simp -dsimp [go_sem,hN];refine cnd ?_ ?_<;>intro h3<;>simp at h3
 ·
  simp -dsimp [go_sem,hN,decide_eq_true h3]
  repeat refine ⟨by grind,?_⟩
  refine qaj (qdk _ _) ?_;rintro r h' ⟨⟨hm,rfl⟩ | ⟨hm,rfl⟩,rfl⟩<;>simp at hm
  ·
   simp -dsimp [go_sem,hN];refine qaj (qce op a.n b.n _) ?_;rintro r' h' ⟨rfl,rfl⟩;rw [binS,if_pos (by omega),if_pos (by grind)];cases arithS op a.n b.n<;>simp -dsimp [go_sem,hN,endV]<;>exact ⟨_,.refl _,h,by simp [go_sem],by simp [go_sem],by simp,by simp [hu,go_sem],rfl,rfl⟩
  ·
   simp -dsimp [go_sem,hN];rw [binS,if_pos (by omega),if_neg (by grind)];exact ⟨_,.refl _,h,by simp [go_sem],by simp [go_sem],by simp,by simp [hu,go_sem],rfl,rfl⟩
 simp -dsimp [go_sem,hN];refine cnd ?_ ?_<;>intro h4<;>simp at h4
 ·
  simp -dsimp [go_sem,hN]
  repeat refine ⟨by grind,?_⟩
  refine qaj (qdk _ _) ?_;rintro r h' ⟨⟨hm,rfl⟩ | ⟨hm,rfl⟩,rfl⟩<;>simp at hm
  ·
   simp -dsimp [go_sem,hN];refine qaj (qce op a.n b.n _) ?_;rintro r' h' ⟨rfl,rfl⟩;rw [binS,if_pos (by omega),if_pos (by grind)];cases arithS op a.n b.n<;>simp -dsimp [go_sem,hN,endV]<;>exact ⟨_,.refl _,h,by simp [go_sem],by simp [go_sem],by simp,by simp [hu,go_sem],rfl,rfl⟩
  ·
   simp -dsimp [go_sem,hN];rw [binS,if_pos (by omega),if_neg (by grind)];exact ⟨_,.refl _,h,by simp [go_sem],by simp [go_sem],by simp,by simp [hu,go_sem],rfl,rfl⟩
 simp -dsimp [go_sem,hN];refine cnd ?_ ?_<;>intro h5<;>simp at h5
 ·
  simp -dsimp [go_sem,hN]
  repeat refine ⟨by grind,?_⟩
  refine qaj (qdk _ _) ?_;rintro r h' ⟨⟨hm,rfl⟩ | ⟨hm,rfl⟩,rfl⟩<;>simp at hm
  rotate_left
  ·
   simp -dsimp [go_sem,hN];rw [binS,if_neg (by omega),if_pos h5,if_neg (by grind)];exact ⟨_,.refl _,h,by simp [go_sem],by simp [go_sem],by simp,by simp [hu,go_sem],rfl,rfl⟩
  rw [binS,if_neg (by omega),if_pos h5,if_pos (by grind)];simp -dsimp [go_sem,hN]
  repeat refine ⟨by grind,?_⟩
  refine qaa (qbq (decide (a.n=1)&&decide (b.n=1))) ?_;simp -dsimp [go_sem,hN];exact ⟨_,.refl _,h,by simp [go_sem],by simp [go_sem],by simp,by simp [hu,go_sem],rfl,rfl⟩
 simp -dsimp [go_sem,hN];refine cnd ?_ ?_<;>intro h6<;>simp at h6
 ·
  simp -dsimp [go_sem,hN]
  repeat refine ⟨by grind,?_⟩
  refine qaj (qdk _ _) ?_;rintro r h' ⟨⟨hm,rfl⟩ | ⟨hm,rfl⟩,rfl⟩<;>simp at hm
  rotate_left
  ·
   simp -dsimp [go_sem,hN];rw [binS,if_neg (by omega),if_neg h5,if_pos h6,if_neg (by grind)];exact ⟨_,.refl _,h,by simp [go_sem],by simp [go_sem],by simp,by simp [hu,go_sem],rfl,rfl⟩
  rw [binS,if_neg (by omega),if_neg h5,if_pos h6,if_pos (by grind)];simp -dsimp [go_sem,hN]
  repeat refine ⟨by grind,?_⟩
  refine qaa (qbq (decide (a.n=1)||decide (b.n=1))) ?_;simp -dsimp [go_sem,hN];exact ⟨_,.refl _,h,by simp [go_sem],by simp [go_sem],by simp,by simp [hu,go_sem],rfl,rfl⟩
 simp -dsimp [go_sem,hN];refine cnd ?_ ?_<;>intro h7<;>simp at h7
 ·
  simp -dsimp [go_sem,hN]
  repeat refine ⟨by grind,?_⟩
  refine qaj (qdk _ _) ?_;rintro r h' ⟨⟨hm,rfl⟩ | ⟨hm,rfl⟩,rfl⟩<;>simp at hm
  rotate_left
  ·
   simp -dsimp [go_sem,hN];rw [binS,if_neg (by omega),if_neg h5,if_neg h6,if_pos h7,if_neg (by grind)];exact ⟨_,.refl _,h,by simp [go_sem],by simp [go_sem],by simp,by simp [hu,go_sem],rfl,rfl⟩
  rw [binS,if_neg (by omega),if_neg h5,if_neg h6,if_pos h7,if_pos (by grind)];simp -dsimp [go_sem,hN];refine ⟨hS,?_⟩;refine qaj (c_interp_text (a.s++b.s) _) ?_;rintro r' h' ⟨rfl,rfl⟩;cases textS (a.s++b.s)<;>simp -dsimp [go_sem,hN,endV]<;>exact ⟨_,.refl _,h,by simp [go_sem],by simp [go_sem],by simp,by simp [hu,go_sem],rfl,rfl⟩
 simp -dsimp [go_sem,hN];refine qaj (c_interp_compare op a b _) ?_;rintro r' h' ⟨rfl,rfl⟩;rw [binS,if_neg (by omega),if_neg h5,if_neg h6,if_neg h7];cases compS op a b<;>simp -dsimp [go_sem,hN,endV]<;>exact ⟨_,.refl _,h,by simp [go_sem],by simp [go_sem],by simp,by simp [hu,go_sem],rfl,rfl⟩
end Go.Proofs.YtilhejdbiionhaaGreatDoor

set_option maxRecDepth 4000
namespace Go.Proofs.YtilhejdbiionhaaGreatDoor
open Go Go.Abs Go.Cw Go.Shelf
def renF:Ren:=⟨fun
 | 129=>166 | 173=>252 | 246=>274 | 283=>289 | 284=>290 | 285=>291 | 286=>292
 | 317=>304 | 318=>305 | 319=>306 | 320=>307 | 337=>310 | 338=>311 | x=>x,
 fun | 0=>0 | 2=>2 | 3=>3 | 4=>4 | 5=>5 | 9=>9 | 20=>20 | 37=>293 | 46=>148 | 51=>200 | 53=>202 | 171=>291 | 173=>294 | 212=>300 | 213=>301 | 232=>303 | 233=>304 | x=>x,
 fun | 17=>0 | 18=>2 | 19=>3 | x=>x⟩
theorem laysF0:Lays.n173 Tryz.prog renF:=by
 constructor<;>first | exact fun _=>by kernel_rfl | kernel_rfl
theorem laysF:LaysM.n173 Tryz.prog renF:={ laysF0 with i0:=by kernel_rfl,i2:=by kernel_rfl,i3:=by kernel_rfl,i4:=by kernel_rfl,i5:=by kernel_rfl,i9:=by kernel_rfl,i20:=by kernel_rfl,i37:=by kernel_rfl,i46:=by kernel_rfl,i51:=by kernel_rfl,i53:=by kernel_rfl,i171:=by kernel_rfl,i173:=by kernel_rfl,i212:=by kernel_rfl,i232:=by kernel_rfl,i233:=by kernel_rfl,m17:=by kernel_rfl,m18:=by kernel_rfl,m19:=by kernel_rfl }
def tabV:Array Value:=(Lib.pow10Tab.map fun z=>Value.int .u64 z).toArray
def tabO (T:TypeId) (x:Nat×Nat):AObj:=.raw 0 (fun _=>.cells tabV T x) []
def qbo (n:Int):qac:=⟨(Lib.itoa n).toArray⟩
theorem hsim_grow {c:Ctx} {h:qab} {w:World} (hs:HSim c h w) (k:Nat) (os:Array Obj):HSim c h (Sort.grow (w.drewN k) os)∧(⟨0,c,h,w⟩:Ent).ok c h (Sort.grow (w.drewN k) os):=by
 have hw:∀ b,b<w.heap.size→(Sort.grow (w.drewN k) os).heap[b]?=w.heap[b]?:=fun b hb=>by
  show (w.heap++os)[b]?=_;rw [Array.getElem?_append_left hb]
 refine ⟨hs.ext hw (.refl c) (fun _ _=>rfl) (fun _ _ _ h=>.inl h) hs.dom,?_⟩;exact (Ent.ok.refl 0 hs).ext' hs hw (.refl c) (fun _=>rfl) rfl rfl rfl (by show _≤(w.heap++os).size;simp) (fun _ _ _ h=>.inl h)
theorem c_FormatInt (n:Int) (hn:i64 n) (h:qab) (g:Nat) {T:TypeId} {x:Nat×Nat} (hg:h[g]?=some (tabO T x)) (hsz:(qbo n).size≤68719476736) :
  ACalls Tryz.prog 252 [I n,I 10] h fun r h'=>r=.ret (S (qbo n))∧h'=h:=by
 refine ⟨⟨_,laysF.f173,rfl,rfl⟩,fun c w vs hs ha=>?_⟩;obtain ⟨hb,us,hv,_⟩:=hs.obj _ _ hg
 have htab:Lib.TabIs Tryz.prog w "internal/strconv.uint64pow10" .u64 Lib.pow10Tab:=by
  unfold Lib.TabIs World.var?;rw [laysF.m17];simp only [Option.bind_some];show (match w.heap[0]? with | some (.cells cs _ _)=>some cs | _=>none)=_;rw [hv];rfl
 have he:vs = #[.int .i64 n,.int .i64 10]:=relL_vals (l:=[.int .i64 n,.int .i64 10]) ha;rw [he];refine (Any.strconv_FormatInt_10 laysF n hn.1 hn.2 w htab).mono ?_;rintro e w' ⟨rfl,k,os,rfl⟩;obtain ⟨g1,g2⟩:=hsim_grow hs k os;exact ⟨_,h,c,⟨rfl,rfl⟩,.val _ (by simpa [strOk] using hsz),g1,g2⟩
theorem c_num_Format (n:Int) (hn:i64 n) (h:qab) (g:Nat) {T:TypeId} {x:Nat×Nat} (hg:h[g]?=some (tabO T x)) :
  ACalls Tryz.prog 218 [I n] h fun r h'=>r=.ret (S (qbo n))∧h'=h:=by
 have hsz:(qbo n).size≤68719476736:=by
  have:=Lib.itoa_length_le n hn.1 hn.2;show (Lib.itoa n).length≤_;omega
 refine qaq Tryz.func218 Tryz.ntmps218 rfl (by kernel_rfl) rfl fun E hN hh hu hb hb' hua=>?_;simp -dsimp [go_sem,hN];refine qaj (c_FormatInt n hn h g hg hsz) ?_;rintro r h' ⟨rfl,rfl⟩;simp -dsimp [go_sem,hN];exact ⟨_,.refl _,_,rfl,hwk.refl _,Nat.le_refl _,hu,rfl,rfl⟩
end Go.Proofs.YtilhejdbiionhaaGreatDoor
