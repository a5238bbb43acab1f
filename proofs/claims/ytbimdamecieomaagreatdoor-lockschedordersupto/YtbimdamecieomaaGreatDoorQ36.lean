/- Part 36 of a proof: W11, W12, W13, W19, W21 -/
import Derived.Shelf.Small.Strs
import Derived.Shelf.Strconv.Itoa4
import Derived.Lib.ItoaLen
import Derived.Test.YtbimdamecieomaaGreatDoorQ14
import Derived.Test.YtbimdamecieomaaGreatDoorQ15
import Derived.Test.YtbimdamecieomaaGreatDoorQ16
import Derived.Test.YtbimdamecieomaaGreatDoorQ17
import Derived.Test.YtbimdamecieomaaGreatDoorQ21
import Derived.Test.YtbimdamecieomaaGreatDoorQ22
import Derived.Test.YtbimdamecieomaaGreatDoorQ28
import Derived.Test.YtbimdamecieomaaGreatDoorQ31
import Derived.Test.YtbimdamecieomaaGreatDoorQ35
set_option linter.all false

set_option maxRecDepth 4000
namespace Go.Proofs.YtbimdamecieomaaGreatDoor
open Go Go.Abs Go.Cw
theorem c_num_Neg (a:Int):APure Tryz.prog 262 [I a] (.tuple [I (numNeg a).1,I (numNeg a).2]):=by
 refine qaz Tryz.func262 Tryz.ntmps262 rfl (by kernel_rfl) rfl rfl fun E h hN hh hu hb=>?_;simp -dsimp [go_sem,hN];refine cnd ?_ ?_<;>intro h0<;>simp at h0<;>simp -dsimp [go_sem,hN,numNeg,h0]
theorem c_num_Add (a b:Int):APure Tryz.prog 293 [I a,I b] (.tuple [I (numAdd a b).1,I (numAdd a b).2]):=by
 refine qaz Tryz.func293 Tryz.ntmps293 rfl (by kernel_rfl) rfl rfl fun E h hN hh hu hb=>?_;simp -dsimp [go_sem,hN]
 repeat refine ⟨by grind,?_⟩
 refine cnd ?_ ?_<;>intro h0<;>simp at h0<;>simp -dsimp [go_sem,hN]<;>grind [numAdd]
theorem c_num_Sub (a b:Int):APure Tryz.prog 294 [I a,I b] (.tuple [I (numSub a b).1,I (numSub a b).2]):=by
 refine qaz Tryz.func294 Tryz.ntmps294 rfl (by kernel_rfl) rfl rfl fun E h hN hh hu hb=>?_;simp -dsimp [go_sem,hN]
 repeat refine ⟨by grind,?_⟩
 refine cnd ?_ ?_<;>intro h0<;>simp at h0<;>simp -dsimp [go_sem,hN]<;>grind [numSub]
theorem c_num_Mul (a b:Int):APure Tryz.prog 295 [I a,I b] (.tuple [I (numMul a b).1,I (numMul a b).2]):=by
 refine qaz Tryz.func295 Tryz.ntmps295 rfl (by kernel_rfl) rfl rfl fun E h hN hh hu hb=>?_;simp -dsimp [go_sem,hN]
 repeat refine ⟨by grind,?_⟩
 refine cnd ?_ ?_<;>intro h0<;>simp at h0<;>simp -dsimp [go_sem,hN]
 · grind [numMul]
 refine cnd ?_ ?_<;>intro h1<;>simp at h1<;>simp -dsimp [go_sem,hN]
 ·
  refine qab (c_num_Neg b) ?_;simp -dsimp [go_sem,hN];grind [numMul]
 refine cnd ?_ ?_<;>intro h2<;>simp at h2<;>simp -dsimp [go_sem,hN]
 ·
  refine qab (c_num_Neg a) ?_;simp -dsimp [go_sem,hN];grind [numMul]
 repeat refine ⟨by grind,?_⟩
 refine cnd ?_ ?_<;>intro h3<;>simp at h3<;>simp -dsimp [go_sem,hN]<;>grind [numMul]
theorem c_num_Div (a b:Int):APure Tryz.prog 296 [I a,I b] (.tuple [I (numDiv a b).1,I (numDiv a b).2]):=by
 refine qaz Tryz.func296 Tryz.ntmps296 rfl (by kernel_rfl) rfl rfl fun E h hN hh hu hb=>?_;simp -dsimp [go_sem,hN];refine cnd ?_ ?_<;>intro h0<;>simp at h0<;>simp -dsimp [go_sem,hN]
 · grind [numDiv]
 refine cnd ?_ ?_<;>intro h1<;>simp at h1<;>simp -dsimp [go_sem,hN]
 ·
  refine qab (c_num_Neg a) ?_;simp -dsimp [go_sem,hN];grind [numDiv]
 repeat refine ⟨by grind,?_⟩
 refine cnd ?_ ?_<;>intro h3<;>simp at h3<;>simp -dsimp [go_sem,hN]<;>grind [numDiv]
theorem c_num_Mod (a b:Int):APure Tryz.prog 297 [I a,I b] (.tuple [I (numMod a b).1,I (numMod a b).2]):=by
 refine qaz Tryz.func297 Tryz.ntmps297 rfl (by kernel_rfl) rfl rfl fun E h hN hh hu hb=>?_;simp -dsimp [go_sem,hN];refine cnd ?_ ?_<;>intro h0<;>simp at h0<;>simp -dsimp [go_sem,hN]
 · grind [numMod]
 refine cnd ?_ ?_<;>intro h1<;>simp at h1<;>simp -dsimp [go_sem,hN]
 · grind [numMod]
 repeat refine ⟨by grind,?_⟩
 refine cnd ?_ ?_<;>intro h3<;>simp at h3<;>simp -dsimp [go_sem,hN]<;>grind [numMod]
theorem c_cmp_isNaN (a:Int):APure Tryz.prog 223 [I a] (Bo false):=by
 refine qaz Tryz.func223 Tryz.ntmps223 rfl (by kernel_rfl) rfl rfl fun E h hN hh hu hb=>?_;simp -dsimp [go_sem,hN]
theorem c_cmp_isNaN64 (a:Int):APure Tryz.prog 345 [I a] (Bo false):=by
 refine qaz Tryz.func345 Tryz.ntmps345 rfl (by kernel_rfl) rfl rfl fun E h hN hh hu hb=>?_;simp -dsimp [go_sem,hN]
theorem c_cmp_Compare (a b:Int):APure Tryz.prog 320 [I a,I b] (I (cmpI a b)):=by
 refine qaz Tryz.func320 Tryz.ntmps320 rfl (by kernel_rfl) rfl rfl fun E h hN hh hu hb=>?_;simp -dsimp [go_sem,hN];refine qab (c_cmp_isNaN a) ?_;simp -dsimp [go_sem,hN];refine qab (c_cmp_isNaN b) ?_;simp -dsimp [go_sem,hN];refine cnd ?_ ?_<;>intro h0<;>simp at h0<;>simp -dsimp [go_sem,hN]
 · grind [cmpI]
 refine cnd ?_ ?_<;>intro h1<;>simp at h1<;>simp -dsimp [go_sem,hN]<;>grind [cmpI]
theorem c_cmp_Compare64 (a b:Int):APure Tryz.prog 337 [I a,I b] (I (cmpI a b)):=by
 refine qaz Tryz.func337 Tryz.ntmps337 rfl (by kernel_rfl) rfl rfl fun E h hN hh hu hb=>?_;simp -dsimp [go_sem,hN];refine qab (c_cmp_isNaN64 a) ?_;simp -dsimp [go_sem,hN];refine qab (c_cmp_isNaN64 b) ?_;simp -dsimp [go_sem,hN];refine cnd ?_ ?_<;>intro h0<;>simp at h0<;>simp -dsimp [go_sem,hN]
 · grind [cmpI]
 refine cnd ?_ ?_<;>intro h1<;>simp at h1<;>simp -dsimp [go_sem,hN]<;>grind [cmpI]
theorem c_pair_numbers (u v:V):APure Tryz.prog 321 [.agg [I u.k,I u.n,S u.s,I v.k,I v.n,S v.s]] (I (cmpI u.n v.n)):=by
 refine qaz Tryz.func321 Tryz.ntmps321 rfl (by kernel_rfl) rfl rfl fun E h hN hh hu hb=>?_;simp -dsimp [go_sem,hN];refine qab (c_cmp_Compare64 u.n v.n) ?_;simp -dsimp [go_sem,hN]
end Go.Proofs.YtbimdamecieomaaGreatDoor

set_option maxRecDepth 4000
namespace Go.Proofs.YtbimdamecieomaaGreatDoor
open Go Go.Abs Go.Cw Go.Shelf
def renC:Ren:=⟨fun | 106=>141 | 213=>174 | 265=>217 | x=>x,fun | 3=>3 | 9=>9 | x=>x,fun x=>x⟩
theorem laysC:Lays.n106 Tryz.prog renC where
 mixed:=by kernel_rfl
 f106:=by kernel_rfl
 f213:=by kernel_rfl
 f265:=by kernel_rfl
 t3:=by kernel_rfl
 a3:=fun _=>by kernel_rfl
 z3:=fun _=>by kernel_rfl
 v3:=fun _=>by kernel_rfl
 t9:=by kernel_rfl
 a9:=fun _=>by kernel_rfl
 z9:=fun _=>by kernel_rfl
 v9:=fun _=>by kernel_rfl
theorem c_strings_Compare (a b:qac):APure Tryz.prog 141 [S a,S b] (I (cmpS a b)) :=
 apure_calls (l:=[.string a,.string b]) (r:=.int .i64 (cmpS a b)) rfl ⟨_,laysC.f106,rfl,rfl⟩ fun w=>Any.strings_Compare laysC a b w
theorem c_pair_strings (u v:V):APure Tryz.prog 322 [.agg [I u.k,I u.n,S u.s,I v.k,I v.n,S v.s]] (I (cmpS u.s v.s)):=by
 refine qaz Tryz.func322 Tryz.ntmps322 rfl (by kernel_rfl) rfl rfl fun E h hN hh hu hb=>?_;simp -dsimp [go_sem,hN];refine qab (c_strings_Compare u.s v.s) ?_;simp -dsimp [go_sem,hN]
theorem c_value_Compare (u v:V):APure Tryz.prog 298 [.agg u.c,.agg v.c] (I (cmpV u v)):=by
 refine qaz Tryz.func298 Tryz.ntmps298 rfl (by kernel_rfl) rfl rfl fun E h hN hh hu hb=>?_;simp -dsimp [go_sem,hN];refine cnd ?_ ?_<;>intro h0<;>simp at h0<;>simp -dsimp [go_sem,hN]
 ·
  refine qab (c_cmp_Compare u.k v.k) ?_;simp -dsimp [go_sem,hN];simp [cmpV,h0]
 refine cnd ?_ ?_<;>intro h1<;>simp at h1<;>simp -dsimp [go_sem,hN]
 ·
  refine qab (c_pair_strings u v) ?_;simp -dsimp [go_sem,hN];simp [cmpV,h0,h1]
 ·
  refine qab (c_pair_numbers u v) ?_;simp -dsimp [go_sem,hN];simp [cmpV,h0,h1]
end Go.Proofs.YtbimdamecieomaaGreatDoor

set_option maxRecDepth 4000
namespace Go.Proofs.YtbimdamecieomaaGreatDoor
open Go Go.Abs Go.Cw
@[go_sem] theorem zero_int:zeroAV Tryz.prog 3=some (I 0):=by kernel_rfl
@[go_sem] theorem zero_bool:zeroAV Tryz.prog 4=some (Bo false):=by kernel_rfl
@[go_sem] theorem zero_Value:zeroAV Tryz.prog 71=some (.agg [I 0,I 0,S ⟨#[]⟩]):=by kernel_rfl
theorem c_types_of (vars:List (qac×Int)) (e:Ex) (d:Nat) (hv:chkE e d=0) (h:qaa) (m:Nat) (hm:h[m]?=some (.map (kAV I vars))) :
  ACalls Tryz.prog 318 [.agg e.x,.mapr m] h fun r h'=>r=.ret (.tuple [I (ofE vars e).1,I (ofE vars e).2])∧h'=h:=by
 refine qa0 Tryz.func318 Tryz.ntmps318 rfl (by kernel_rfl) rfl fun E hN hh hu hb hb' hua=>?_;simp [go_sem] at hb;have hml:m<h.length:=(List.getElem?_eq_some_iff.1 hm).1;have a1:∀ l:qaa,(h++l)[m]?=h[m]?:=fun l=>List.getElem?_append_left hml;simp -dsimp [go_sem,hN];refine cnd ?_ ?_<;>intro h0<;>simp at h0
 ·
  have ho:ofE vars e=varT (qcu vars e.s):=by rw [ofE_eq,if_pos h0]
  rcases hk:qcu vars e.s with _ | ty
  ·
   rw [hk] at ho;simp -dsimp [go_sem,hN,a1,hm,hk];rw [ho];exact ⟨_,.refl _,h,by simp [go_sem],by simp [go_sem],by simp,by simp [hu,go_sem],rfl,rfl⟩
  ·
   rw [hk] at ho;simp -dsimp [go_sem,hN,a1,hm,hk]
   repeat refine ⟨by grind,?_⟩
   refine cnd ?_ ?_<;>intro h1<;>simp at h1
   ·
    simp -dsimp [go_sem,hN];rw [ho,varT,if_pos (by omega)];exact ⟨_,.refl _,h,by simp [go_sem],by simp [go_sem],by simp,by simp [hu,go_sem],rfl,rfl⟩
   ·
    simp -dsimp [go_sem,hN];rw [ho,varT,if_neg (by omega)];exact ⟨_,.refl _,h,by simp [go_sem],by simp [go_sem],by simp,by simp [hu,go_sem],rfl,rfl⟩
 simp -dsimp [go_sem,hN];refine qbh (α:=List Int) e.args.length (fun n o=>((ofL vars e.args).1=(ofL vars (e.args.drop n)).1∧((ofL vars e.args).1=0→(ofL vars e.args).2=o++(ofL vars (e.args.drop n)).2))∧o.length=n) (fun n o=>⟨[(1,.mapr m),(2,.ptr h.length 0),(8,.own (h.length+1) o.length),(39,.slice (e.args.map Ex.c)),(40,I e.args.length),(41,I n)],h++[.cells e.x,.arr 3 1 (o.map qb1)]⟩) [] (by simp) ((nil_wk E _ 8 3 1 rfl).trans ?_) ?_
 · exact (Wk.mk (by simp [hh]) (by simp [go_sem]) (by simp [hu,qar hu,go_sem]) (by simp [go_sem];omega))
 intro n o hn ⟨⟨hI1,hI2⟩,hol⟩;have hw:=qa6 hn hb.2.1;simp -dsimp [go_sem,hN];refine cnd ?_ ?_<;>intro hc<;>simp at hc
 ·
  have hlt:SizeOf.sizeOf e.args[n]<SizeOf.sizeOf e:=Ex.arg_lt (List.getElem_mem hc);rw [qah hc,ofL] at hI1 hI2;simp -dsimp [go_sem,hN,hc];refine qam (c_types_of vars e.args[n] (d+1) (chkE_args hv _ (List.getElem_mem hc)) _ m (by rw [a1];exact hm)) ?_;rintro r h' ⟨rfl,rfl⟩;simp -dsimp [go_sem,hN];refine cnd ?_ ?_<;>intro h1<;>simp at h1
  ·
   simp -dsimp [go_sem,hN];rw [if_pos h1] at hI1;simp only at hI1;have ho:ofE vars e=(0,(ofE vars e.args[n]).2):=by rw [ofE_eq vars e,if_neg h0,if_pos (by rw [hI1];exact h1),hI1]
   rw [ho];exact ⟨_,.refl _,h,by simp [go_sem],by simp [go_sem],by simp,by simp [hu,go_sem],rfl,rfl⟩
  ·
   rw [if_neg (by simpa using h1)] at hI1 hI2;simp only at hI1 hI2;simp -dsimp [go_sem,hN,hw];refine ⟨by omega,hc,o++[(ofE vars e.args[n]).1],⟨⟨hI1,fun h2=>by rw [hI2 h2];simp⟩,by simp;omega⟩,?_⟩;exact (Wk.mk (by simp [hh]) (by simp [go_sem]) (by simp [hu,qar hu,go_sem]) (by simp [go_sem];omega))
 rw [List.drop_eq_nil_of_le (by omega),ofL] at hI1 hI2;simp only at hI1 hI2;have hI3:=hI2 hI1;rw [List.append_nil] at hI3;have hoe:=ofE_eq vars e;rw [if_neg h0,hI1,if_neg (by simp),hI3] at hoe;have har:=chkE_arity hv;simp -dsimp [go_sem,hN];refine cnd ?_ ?_<;>intro h1<;>simp at h1
 ·
  rw [if_pos h1] at hoe;have h2:o.length=2:=by
   have:arity e.op=2:=by unfold arity;rw [if_neg (by omega),if_neg (by omega),if_neg (by omega)]
   omega
  obtain ⟨x,y,rfl⟩:∃ x y,o=[x,y]:=by
   match o,h2 with
   | [x,y],_=>exact ⟨x,y,rfl⟩
  simp at hoe;simp -dsimp [go_sem,hN];refine qan 13 mixed (by kernel_rfl) (by kernel_rfl) ?_;simp -dsimp [go_sem,hN,qb1];refine qag (c_types_compared e.op x) (by simp) ?_;simp -dsimp [go_sem,hN]
  repeat refine ⟨by grind,?_⟩
  refine cnd (fun h3=>?_) (fun h3=>?_)
  ·
   simp -dsimp [go_sem,hN];rw [hoe,if_pos (by simp at h3;grind)];exact ⟨_,.refl _,h,by simp [go_sem],by simp [go_sem],by simp,by simp [hu,go_sem],rfl,rfl⟩
  ·
   simp -dsimp [go_sem,hN];rw [hoe,if_neg (by simp at h3;grind)];exact ⟨_,.refl _,h,by simp [go_sem],by simp [go_sem],by simp,by simp [hu,go_sem],rfl,rfl⟩
 rw [if_neg (by omega)] at hoe;simp -dsimp [go_sem,hN];refine qab (c_types_signature e.op) ?_;simp -dsimp [go_sem,hN];refine qaj o.length (fun n=>(o.drop n).all (fun t=>decide (t=(qdh e.op).1))=o.all (fun t=>decide (t=(qdh e.op).1))) (fun n=>⟨[(13,I (qdh e.op).1),(14,I (qdh e.op).2),(89,.slice (o.map qb1)),(90,I o.length),(91,I n)],h⟩) (by simp) ((norm_wk E _).trans ?_) ?_
 · exact (Wk.mk (by simp [hh]) (by simp [go_sem]) (by simp [hu,qar hu,go_sem]) (by simp [go_sem];try omega))
 intro n hn hJ;have hw:=qa6 hn (by omega);simp -dsimp [go_sem,hN];refine cnd ?_ ?_<;>intro hc<;>simp at hc
 ·
  rw [qah hc,List.all_cons] at hJ;simp -dsimp [go_sem,hN,hc,qb1];refine cnd ?_ ?_<;>intro h3<;>simp at h3
  ·
   simp -dsimp [go_sem,hN];rw [hoe,if_neg (by rw [← hJ];simp [h3])];exact ⟨_,.refl _,h,by simp [go_sem],by simp [go_sem],by simp,by simp [hu,go_sem],rfl,rfl⟩
  ·
   simp -dsimp [go_sem,hN,hw];refine ⟨hc,by simpa [h3] using hJ,?_⟩;exact (Wk.mk (by simp [hh]) (by simp [go_sem]) (by simp [hu,qar hu,go_sem]) (by simp [go_sem];try omega))
 ·
  rw [List.drop_eq_nil_of_le (by omega)] at hJ;simp -dsimp [go_sem,hN];rw [hoe,if_pos (by rw [← hJ];rfl)];exact ⟨_,.refl _,h,by simp [go_sem],by simp [go_sem],by simp,by simp [hu,go_sem],rfl,rfl⟩
termination_by SizeOf.sizeOf e
end Go.Proofs.YtbimdamecieomaaGreatDoor

set_option maxRecDepth 4000
set_option maxHeartbeats 2000000
namespace Go.Proofs.YtbimdamecieomaaGreatDoor
open Go Go.Abs Go.Cw
def stopAV (z:Stop):AV:=.iface 146 (.agg [I z.status,I z.code,.slice [],S z.miss])
@[simp] theorem norm_stop (h:qaa) (z:Stop):(stopAV z).norm h=stopAV z:=by simp [stopAV,AV.norm,qa4]
@[simp] theorem under_stop (n:Nat) (z:Stop):(stopAV z).under n=true:=by simp [stopAV,AV.under,qav]
def endV:EV→AEnd
 | .ok v=>.ret (.agg v.c)
 | .error z=>.panic (stopAV z)
def endU:Except Stop Unit→AEnd
 | .ok _=>.ret (.tuple [])
 | .error z=>.panic (stopAV z)
theorem qa8 (code:Int) (h:qaa):ACalls Tryz.prog 167 [I code] h fun r h'=>r=.panic (stopAV (ab code))∧h'=h:=by
 refine qa0 Tryz.func167 Tryz.ntmps167 rfl (by kernel_rfl) rfl fun E hN hh hu hb hb' hua=>?_;simp -dsimp [go_sem,hN];exact ⟨_,.refl _,h,by simp [go_sem],hwk.refl _,Nat.le_refl _,hu,rfl,rfl⟩
theorem qde (n:Int):APure Tryz.prog 212 [I n] (.agg (vI n).c):=by
 refine qaz Tryz.func212 Tryz.ntmps212 rfl (by kernel_rfl) rfl rfl fun E h hN hh hu hb=>?_;simp -dsimp [go_sem,hN];exact ⟨rfl,rfl,rfl⟩
theorem qbk (b:Bool):APure Tryz.prog 263 [Bo b] (.agg (vB b).c):=by
 refine qaz Tryz.func263 Tryz.ntmps263 rfl (by kernel_rfl) rfl rfl fun E h hN hh hu hb=>?_;simp -dsimp [go_sem,hN];refine cnd (fun h0=>?_) (fun h0=>?_)
 ·
  subst h0;simp -dsimp [go_sem,hN];exact ⟨rfl,rfl,rfl⟩
 ·
  subst h0;simp -dsimp [go_sem,hN];exact ⟨rfl,rfl,rfl⟩
theorem c_interp_must (b:Bool) (h:qaa):ACalls Tryz.prog 169 [Bo b] h fun r h'=>r=(if b then .ret (.tuple []) else .panic (stopAV (ab 1009)))∧h'=h:=by
 refine qa0 Tryz.func169 Tryz.ntmps169 rfl (by kernel_rfl) rfl fun E hN hh hu hb hb' hua=>?_;simp -dsimp [go_sem,hN];refine cnd ?_ ?_<;>intro h0<;>simp at h0<;>subst h0
 ·
  simp -dsimp [go_sem,hN];refine qam (qa8 1009 h) ?_;rintro r h' ⟨rfl,rfl⟩;simp -dsimp [go_sem,hN];exact ⟨_,.refl _,_,by simp,hwk.refl _,Nat.le_refl _,hu,rfl,rfl⟩
 ·
  simp -dsimp [go_sem,hN];exact ⟨_,.refl _,_,by simp [go_sem],hwk.refl _,Nat.le_refl _,hu,rfl,rfl⟩
theorem c_interp_restart (k:qac) (h:qaa):ACalls Tryz.prog 215 [S k] h fun r h'=>r=.panic (stopAV (rst k))∧h'=h:=by
 refine qa0 Tryz.func215 Tryz.ntmps215 rfl (by kernel_rfl) rfl fun E hN hh hu hb hb' hua=>?_;simp -dsimp [go_sem,hN];exact ⟨_,.refl _,h,by simp [go_sem],hwk.refl _,Nat.le_refl _,hu,rfl,rfl⟩
theorem c_interp_text (s:qac) (h:qaa):ACalls Tryz.prog 264 [S s] h fun r h'=>r=endV (textS s)∧h'=h:=by
 refine qa0 Tryz.func264 Tryz.ntmps264 rfl (by kernel_rfl) rfl fun E hN hh hu hb hb' hua=>?_;simp -dsimp [go_sem,hN];refine cnd ?_ ?_<;>intro h0<;>simp at h0
 ·
  simp -dsimp [go_sem,hN];refine qam (qa8 1006 _) ?_;rintro r h' ⟨rfl,rfl⟩;simp -dsimp [go_sem,hN];rw [textS,if_pos (by omega)];exact ⟨_,.refl _,_,by simp [go_sem],by simp [go_sem],by simp,by simp [hu,go_sem],rfl,rfl⟩
 ·
  simp -dsimp [go_sem,hN];rw [textS,if_neg (by omega)];exact ⟨_,.refl _,h,by simp [go_sem],by simp [go_sem],by simp,by simp [hu,go_sem],rfl,rfl⟩
theorem qcm (r:Int×Int) (h:qaa):ACalls Tryz.prog 261 [I r.1,I r.2] h fun x h'=>x=endV (qct r)∧h'=h:=by
 refine qa0 Tryz.func261 Tryz.ntmps261 rfl (by kernel_rfl) rfl fun E hN hh hu hb hb' hua=>?_;simp -dsimp [go_sem,hN];refine cnd ?_ ?_<;>intro h0<;>simp at h0
 ·
  simp -dsimp [go_sem,hN];refine qab (qde r.1) ?_;simp -dsimp [go_sem,hN];rw [qct,if_pos h0];exact ⟨_,.refl _,h,by simp [go_sem],by simp [go_sem],by simp,by simp [hu,go_sem],rfl,rfl⟩
 simp -dsimp [go_sem,hN];refine cnd ?_ ?_<;>intro h1<;>simp at h1
 ·
  simp -dsimp [go_sem,hN];refine qam (qa8 1002 _) ?_;rintro r' h' ⟨rfl,rfl⟩;simp -dsimp [go_sem,hN];rw [qct,if_neg h0,if_pos h1];exact ⟨_,.refl _,h,by simp [go_sem],by simp [go_sem],by simp,by simp [hu,go_sem],rfl,rfl⟩
 ·
  simp -dsimp [go_sem,hN];refine qam (qa8 1001 _) ?_;rintro r' h' ⟨rfl,rfl⟩;simp -dsimp [go_sem,hN];rw [qct,if_neg h0,if_neg h1];exact ⟨_,.refl _,h,by simp [go_sem],by simp [go_sem],by simp,by simp [hu,go_sem],rfl,rfl⟩
theorem qb0 (op a b:Int) (h:qaa):ACalls Tryz.prog 267 [I op,I a,I b] h fun x h'=>x=endV (arithS op a b)∧h'=h:=by
 refine qa0 Tryz.func267 Tryz.ntmps267 rfl (by kernel_rfl) rfl fun E hN hh hu hb hb' hua=>?_;simp -dsimp [go_sem,hN];refine cnd ?_ ?_<;>intro h0<;>simp at h0
 ·
  simp -dsimp [go_sem,hN];refine qab (c_num_Add a b) ?_;simp -dsimp [go_sem,hN];refine qam (qcm (numAdd a b) _) ?_;rintro r' h' ⟨rfl,rfl⟩;rw [arithS, if_pos h0];cases qct (numAdd a b)<;>simp -dsimp [go_sem,hN,endV]<;>exact ⟨_,.refl _,h,by simp [go_sem],by simp [go_sem],by simp,by simp [hu,go_sem],rfl,rfl⟩
 simp -dsimp [go_sem,hN];refine cnd ?_ ?_<;>intro h1<;>simp at h1
 ·
  simp -dsimp [go_sem,hN];refine qab (c_num_Sub a b) ?_;simp -dsimp [go_sem,hN];refine qam (qcm (numSub a b) _) ?_;rintro r' h' ⟨rfl,rfl⟩;rw [arithS,if_neg h0,if_pos h1];cases qct (numSub a b)<;>simp -dsimp [go_sem,hN,endV]<;>exact ⟨_,.refl _,h,by simp [go_sem],by simp [go_sem],by simp,by simp [hu,go_sem],rfl,rfl⟩
 simp -dsimp [go_sem,hN];refine cnd ?_ ?_<;>intro h2<;>simp at h2
 ·
  simp -dsimp [go_sem,hN];refine qab (c_num_Mul a b) ?_;simp -dsimp [go_sem,hN];refine qam (qcm (numMul a b) _) ?_;rintro r' h' ⟨rfl,rfl⟩;rw [arithS,if_neg h0,if_neg h1,if_pos h2];cases qct (numMul a b)<;>simp -dsimp [go_sem,hN,endV]<;>exact ⟨_,.refl _,h,by simp [go_sem],by simp [go_sem],by simp,by simp [hu,go_sem],rfl,rfl⟩
 simp -dsimp [go_sem,hN];refine cnd ?_ ?_<;>intro h3<;>simp at h3
 ·
  simp -dsimp [go_sem,hN];refine qab (c_num_Div a b) ?_;simp -dsimp [go_sem,hN];refine qam (qcm (numDiv a b) _) ?_;rintro r' h' ⟨rfl,rfl⟩;rw [arithS,if_neg h0,if_neg h1,if_neg h2,if_pos h3];cases qct (numDiv a b)<;>simp -dsimp [go_sem,hN,endV]<;>exact ⟨_,.refl _,h,by simp [go_sem],by simp [go_sem],by simp,by simp [hu,go_sem],rfl,rfl⟩
 simp -dsimp [go_sem,hN];refine qab (c_num_Mod a b) ?_;simp -dsimp [go_sem,hN];refine qam (qcm (numMod a b) _) ?_;rintro r' h' ⟨rfl,rfl⟩;rw [arithS,if_neg h0,if_neg h1,if_neg h2,if_neg h3];cases qct (numMod a b)<;>simp -dsimp [go_sem,hN,endV]<;>exact ⟨_,.refl _,h,by simp [go_sem],by simp [go_sem],by simp,by simp [hu,go_sem],rfl,rfl⟩
theorem qdc (b:Bool) (h:qaa):ACalls Tryz.prog 169 [Bo b] h fun r h'=>((b=true∧r=.ret (.tuple []))∨(b=false∧r=.panic (stopAV (ab 1009))))∧h'=h :=
 (c_interp_must b h).mono (by
  rintro r h' ⟨rfl,rfl⟩;cases b
  · exact ⟨.inr ⟨rfl,rfl⟩,rfl⟩
  · exact ⟨.inl ⟨rfl,rfl⟩,rfl⟩)
theorem c_interp_compare (op:Int) (a b:V) (h:qaa):ACalls Tryz.prog 268 [I op,.agg a.c,.agg b.c] h fun x h'=>x=endV (compS op a b)∧h'=h:=by
 refine qa0 Tryz.func268 Tryz.ntmps268 rfl (by kernel_rfl) rfl fun E hN hh hu hb hb' hua=>?_;simp -dsimp [go_sem,hN]
 repeat refine ⟨by grind,?_⟩
 refine qam (qdc _ _) ?_;rintro r h' ⟨⟨hm,rfl⟩ | ⟨hm,rfl⟩,rfl⟩<;>simp at hm
 rotate_left
 ·
  simp -dsimp [go_sem,hN];rw [compS,if_neg (by grind)];exact ⟨_,.refl _,h,by simp [go_sem],by simp [go_sem],by simp,by simp [hu,go_sem],rfl,rfl⟩
 rw [compS,if_pos (by grind)];simp -dsimp [go_sem,hN];refine qab (c_value_Compare a b) ?_;simp -dsimp [go_sem,hN];refine cnd ?_ ?_<;>intro h0<;>simp at h0
 ·
  simp -dsimp [go_sem,hN];refine qab (qbk (decide (cmpV a b=0))) ?_;simp -dsimp [go_sem,hN];rw [cmpBy, if_pos h0];exact ⟨_,.refl _,h,by simp [go_sem],by simp [go_sem],by simp,by simp [hu,go_sem],rfl,rfl⟩
 simp -dsimp [go_sem,hN];refine cnd ?_ ?_<;>intro h1<;>simp at h1
 ·
  simp -dsimp [go_sem,hN];refine qab (qbk (!decide (cmpV a b=0))) ?_;simp -dsimp [go_sem,hN];rw [cmpBy,if_neg h0,if_pos h1];exact ⟨_,.refl _,h,by simp [go_sem],by simp [go_sem],by simp,by simp [hu,go_sem],rfl,rfl⟩
 simp -dsimp [go_sem,hN];refine cnd ?_ ?_<;>intro h2<;>simp at h2
 ·
  simp -dsimp [go_sem,hN];refine qab (qbk (decide (cmpV a b<0))) ?_;simp -dsimp [go_sem,hN];rw [cmpBy,if_neg h0,if_neg h1,if_pos h2];exact ⟨_,.refl _,h,by simp [go_sem],by simp [go_sem],by simp,by simp [hu,go_sem],rfl,rfl⟩
 simp -dsimp [go_sem,hN];refine cnd ?_ ?_<;>intro h3<;>simp at h3
 ·
  simp -dsimp [go_sem,hN];refine qab (qbk (decide (cmpV a b≤0))) ?_;simp -dsimp [go_sem,hN];rw [cmpBy,if_neg h0,if_neg h1,if_neg h2,if_pos h3];exact ⟨_,.refl _,h,by simp [go_sem],by simp [go_sem],by simp,by simp [hu,go_sem],rfl,rfl⟩
 simp -dsimp [go_sem,hN];refine cnd ?_ ?_<;>intro h4<;>simp at h4
 ·
  simp -dsimp [go_sem,hN];refine qab (qbk (decide (0<cmpV a b))) ?_;simp -dsimp [go_sem,hN];rw [cmpBy,if_neg h0,if_neg h1,if_neg h2,if_neg h3,if_pos h4];exact ⟨_,.refl _,h,by simp [go_sem],by simp [go_sem],by simp,by simp [hu,go_sem],rfl,rfl⟩
 simp -dsimp [go_sem,hN];refine qab (qbk (decide (0≤cmpV a b))) ?_;simp -dsimp [go_sem,hN];rw [cmpBy,if_neg h0,if_neg h1,if_neg h2,if_neg h3,if_neg h4];exact ⟨_,.refl _,h,by simp [go_sem],by simp [go_sem],by simp,by simp [hu,go_sem],rfl,rfl⟩
theorem c_interp_binary (op:Int) (a b:V) (h:qaa) (hS:a.s.size+b.s.size≤68719476736):ACalls Tryz.prog 214 [I op,.agg a.c,.agg b.c] h fun x h'=>x=endV (binS op a b)∧h'=h:=by
 refine qa0 Tryz.func214 Tryz.ntmps214 rfl (by kernel_rfl) rfl fun E hN hh hu hb hb' hua=>?_;simp -dsimp [go_sem,hN];refine cnd ?_ ?_<;>intro h0<;>simp at h0
 ·
  simp -dsimp [go_sem,hN,decide_eq_true h0]
  repeat refine ⟨by grind,?_⟩
  refine qam (qdc _ _) ?_;rintro r h' ⟨⟨hm,rfl⟩ | ⟨hm,rfl⟩,rfl⟩<;>simp at hm
  ·
   simp -dsimp [go_sem,hN];refine qam (qb0 op a.n b.n _) ?_;rintro r' h' ⟨rfl,rfl⟩;rw [binS,if_pos (by omega),if_pos (by grind)];cases arithS op a.n b.n<;>simp -dsimp [go_sem,hN,endV]<;>exact ⟨_,.refl _,h,by simp [go_sem],by simp [go_sem],by simp,by simp [hu,go_sem],rfl,rfl⟩
  ·
   simp -dsimp [go_sem,hN];rw [binS,if_pos (by omega),if_neg (by grind)];exact ⟨_,.refl _,h,by simp [go_sem],by simp [go_sem],by simp,by simp [hu,go_sem],rfl,rfl⟩
 simp -dsimp [go_sem,hN];refine cnd ?_ ?_<;>intro h1<;>simp at h1
 ·
  simp -dsimp [go_sem,hN,decide_eq_true h1]
  repeat refine ⟨by grind,?_⟩
  refine qam (qdc _ _) ?_;rintro r h' ⟨⟨hm,rfl⟩ | ⟨hm,rfl⟩,rfl⟩<;>simp at hm
  ·
   simp -dsimp [go_sem,hN];refine qam (qb0 op a.n b.n _) ?_;rintro r' h' ⟨rfl,rfl⟩;rw [binS,if_pos (by omega),if_pos (by grind)];cases arithS op a.n b.n<;>simp -dsimp [go_sem,hN,endV]<;>exact ⟨_,.refl _,h,by simp [go_sem],by simp [go_sem],by simp,by simp [hu,go_sem],rfl,rfl⟩
  ·
   simp -dsimp [go_sem,hN];rw [binS,if_pos (by omega),if_neg (by grind)];exact ⟨_,.refl _,h,by simp [go_sem],by simp [go_sem],by simp,by simp [hu,go_sem],rfl,rfl⟩
 simp -dsimp [go_sem,hN];refine cnd ?_ ?_<;>intro h2<;>simp at h2
 ·
  simp -dsimp [go_sem,hN,decide_eq_true h2]
  repeat refine ⟨by grind,?_⟩
  refine qam (qdc _ _) ?_;rintro r h' ⟨⟨hm,rfl⟩ | ⟨hm,rfl⟩,rfl⟩<;>simp at hm
  ·
   simp -dsimp [go_sem,hN];refine qam (qb0 op a.n b.n _) ?_;rintro r' h' ⟨rfl,rfl⟩;rw [binS,if_pos (by omega),if_pos (by grind)];cases arithS op a.n b.n<;>simp -dsimp [go_sem,hN,endV]<;>exact ⟨_,.refl _,h,by simp [go_sem],by simp [go_sem],by simp,by simp [hu,go_sem],rfl,rfl⟩
  ·
   simp -dsimp [go_sem,hN];rw [binS,if_pos (by omega),if_neg (by grind)];exact ⟨_,.refl _,h,by simp [go_sem],by simp [go_sem],by simp,by simp [hu,go_sem],rfl,rfl⟩
 simp -dsimp [go_sem,hN];refine cnd ?_ ?_<;>intro h3<;>simp at h3
 ·
  simp -dsimp [go_sem,hN,decide_eq_true h3]
  repeat refine ⟨by grind,?_⟩
  refine qam (qdc _ _) ?_;rintro r h' ⟨⟨hm,rfl⟩ | ⟨hm,rfl⟩,rfl⟩<;>simp at hm
  ·
   simp -dsimp [go_sem,hN];refine qam (qb0 op a.n b.n _) ?_;rintro r' h' ⟨rfl,rfl⟩;rw [binS,if_pos (by omega),if_pos (by grind)];cases arithS op a.n b.n<;>simp -dsimp [go_sem,hN,endV]<;>exact ⟨_,.refl _,h,by simp [go_sem],by simp [go_sem],by simp,by simp [hu,go_sem],rfl,rfl⟩
  ·
   simp -dsimp [go_sem,hN];rw [binS,if_pos (by omega),if_neg (by grind)];exact ⟨_,.refl _,h,by simp [go_sem],by simp [go_sem],by simp,by simp [hu,go_sem],rfl,rfl⟩
 simp -dsimp [go_sem,hN];refine cnd ?_ ?_<;>intro h4<;>simp at h4
 ·
  simp -dsimp [go_sem,hN]
  repeat refine ⟨by grind,?_⟩
  refine qam (qdc _ _) ?_;rintro r h' ⟨⟨hm,rfl⟩ | ⟨hm,rfl⟩,rfl⟩<;>simp at hm
  ·
   simp -dsimp [go_sem,hN];refine qam (qb0 op a.n b.n _) ?_;rintro r' h' ⟨rfl,rfl⟩;rw [binS,if_pos (by omega),if_pos (by grind)];cases arithS op a.n b.n<;>simp -dsimp [go_sem,hN,endV]<;>exact ⟨_,.refl _,h,by simp [go_sem],by simp [go_sem],by simp,by simp [hu,go_sem],rfl,rfl⟩
  ·
   simp -dsimp [go_sem,hN];rw [binS,if_pos (by omega),if_neg (by grind)];exact ⟨_,.refl _,h,by simp [go_sem],by simp [go_sem],by simp,by simp [hu,go_sem],rfl,rfl⟩
 simp -dsimp [go_sem,hN];refine cnd ?_ ?_<;>intro h5<;>simp at h5
 ·
  simp -dsimp [go_sem,hN]
  repeat refine ⟨by grind,?_⟩
  refine qam (qdc _ _) ?_;rintro r h' ⟨⟨hm,rfl⟩ | ⟨hm,rfl⟩,rfl⟩<;>simp at hm
  rotate_left
  ·
   simp -dsimp [go_sem,hN];rw [binS,if_neg (by omega),if_pos h5,if_neg (by grind)];exact ⟨_,.refl _,h,by simp [go_sem],by simp [go_sem],by simp,by simp [hu,go_sem],rfl,rfl⟩
  rw [binS,if_neg (by omega),if_pos h5,if_pos (by grind)];simp -dsimp [go_sem,hN]
  repeat refine ⟨by grind,?_⟩
  refine qab (qbk (decide (a.n=1)&&decide (b.n=1))) ?_;simp -dsimp [go_sem,hN];exact ⟨_,.refl _,h,by simp [go_sem],by simp [go_sem],by simp,by simp [hu,go_sem],rfl,rfl⟩
 simp -dsimp [go_sem,hN];refine cnd ?_ ?_<;>intro h6<;>simp at h6
 ·
  simp -dsimp [go_sem,hN]
  repeat refine ⟨by grind,?_⟩
  refine qam (qdc _ _) ?_;rintro r h' ⟨⟨hm,rfl⟩ | ⟨hm,rfl⟩,rfl⟩<;>simp at hm
  rotate_left
  ·
   simp -dsimp [go_sem,hN];rw [binS,if_neg (by omega),if_neg h5,if_pos h6,if_neg (by grind)];exact ⟨_,.refl _,h,by simp [go_sem],by simp [go_sem],by simp,by simp [hu,go_sem],rfl,rfl⟩
  rw [binS,if_neg (by omega),if_neg h5,if_pos h6,if_pos (by grind)];simp -dsimp [go_sem,hN]
  repeat refine ⟨by grind,?_⟩
  refine qab (qbk (decide (a.n=1)||decide (b.n=1))) ?_;simp -dsimp [go_sem,hN];exact ⟨_,.refl _,h,by simp [go_sem],by simp [go_sem],by simp,by simp [hu,go_sem],rfl,rfl⟩
 simp -dsimp [go_sem,hN];refine cnd ?_ ?_<;>intro h7<;>simp at h7
 ·
  simp -dsimp [go_sem,hN]
  repeat refine ⟨by grind,?_⟩
  refine qam (qdc _ _) ?_;rintro r h' ⟨⟨hm,rfl⟩ | ⟨hm,rfl⟩,rfl⟩<;>simp at hm
  rotate_left
  ·
   simp -dsimp [go_sem,hN];rw [binS,if_neg (by omega),if_neg h5,if_neg h6,if_pos h7,if_neg (by grind)];exact ⟨_,.refl _,h,by simp [go_sem],by simp [go_sem],by simp,by simp [hu,go_sem],rfl,rfl⟩
  rw [binS,if_neg (by omega),if_neg h5,if_neg h6,if_pos h7,if_pos (by grind)];simp -dsimp [go_sem,hN];refine ⟨hS,?_⟩;refine qam (c_interp_text (a.s++b.s) _) ?_;rintro r' h' ⟨rfl,rfl⟩;cases textS (a.s++b.s)<;>simp -dsimp [go_sem,hN,endV]<;>exact ⟨_,.refl _,h,by simp [go_sem],by simp [go_sem],by simp,by simp [hu,go_sem],rfl,rfl⟩
 simp -dsimp [go_sem,hN];refine qam (c_interp_compare op a b _) ?_;rintro r' h' ⟨rfl,rfl⟩;rw [binS,if_neg (by omega),if_neg h5,if_neg h6,if_neg h7];cases compS op a b<;>simp -dsimp [go_sem,hN,endV]<;>exact ⟨_,.refl _,h,by simp [go_sem],by simp [go_sem],by simp,by simp [hu,go_sem],rfl,rfl⟩
end Go.Proofs.YtbimdamecieomaaGreatDoor

set_option maxRecDepth 4000
namespace Go.Proofs.YtbimdamecieomaaGreatDoor
open Go Go.Abs Go.Cw Go.Shelf Go.Lib
def renI:Ren:=⟨fun | 17=>338 | 22=>269 | 29=>299 | 30=>300 | 36=>323 | x=>x,fun | 0=>0 | 3=>3 | 4=>4 | 9=>9 | 24=>41 | x=>x,fun x=>x⟩
theorem laysI:Lays2.n22 Tryz.prog renI:=by
 constructor<;>first | exact fun _=>by kernel_rfl | kernel_rfl
theorem c_cmpNaN_str (s:qac):APure Tryz.prog 160 [S s] (Bo false):=by
 refine qaz Tryz.func160 Tryz.ntmps160 rfl (by kernel_rfl) rfl rfl fun E h hN hh hu hb=>?_;simp -dsimp [go_sem,hN]
theorem c_isNaN_str (s:qac):APure Tryz.prog 126 [S s] (Bo false):=by
 refine qaz Tryz.func126 Tryz.ntmps126 rfl (by kernel_rfl) rfl rfl fun E h hN hh hu hb=>?_;simp -dsimp [go_sem,hN]
theorem c_less_str (a b:qac):APure Tryz.prog 125 [S a,S b] (Bo (sLt a b)):=by
 refine qaz Tryz.func125 Tryz.ntmps125 rfl (by kernel_rfl) rfl rfl fun E h hN hh hu hb=>?_;simp -dsimp [go_sem,hN];refine qab (c_cmpNaN_str a) ?_;simp -dsimp [go_sem,hN];refine qdk ?_;simp -dsimp [go_sem,hN]
theorem c_BinarySearch (l:List qac) (k:qac) (hs:qb7 l):APure Tryz.prog 71 [.slice (l.map qbf),S k] (.tuple [I (qc0 k l),Bo (decide (l[qc0 k l]?=some k))]):=by
 refine qaz Tryz.func71 Tryz.ntmps71 rfl (by kernel_rfl) rfl rfl fun E h hN hh hu hb=>?_;simp [go_sem] at hb;have hp:=posS_le k l;simp -dsimp [go_sem,hN];refine awp_loopM (α:=Nat×Nat) (fun x=>x.1≤qc0 k l∧qc0 k l≤x.2∧x.2≤l.length) (fun x=>⟨[(0,.slice (l.map qbf)),(1,S k),(6,I l.length),(7,I x.1),(8,I x.2)],h⟩) (fun x=>x.2 - x.1) (0,l.length) ⟨by simp,hp,by simp⟩ wkA ?_;rintro ⟨i,j⟩ ⟨h1,h2,h3⟩;simp only at h1 h2 h3;simp -dsimp [go_sem,hN];refine cnd ?_ ?_<;>intro hc<;>simp at hc
 ·
  have hm:IntKind.i64.wrap ((IntKind.u64.wrap (IntKind.i64.wrap ((i:Int)+j))).fdiv 2)=(((i+j) / 2:Nat):Int):=by
   have h0:=hb.1.1;have e0:IntKind.i64.wrap ((i:Int)+j)=(i:Int)+j:=wrapI (by omega) (by omega);rw [e0];have:IntKind.u64.wrap ((i:Int)+j)=(i:Int)+j:=by
    simp only [IntKind.wrap,IntKind.bits,IntKind.signed];simp;omega
   rw [this];have e1:((i:Int)+j).fdiv 2=(((i+j) / 2:Nat):Int):=by
    rw [Int.fdiv_eq_ediv_of_nonneg _ (by omega)];omega
   rw [e1,wrapI (by omega) (by omega)]
  have hlt:(i+j) / 2<l.length:=by omega
  have hi':=posS_lt (k:=k) hs ((i+j) / 2) hlt;generalize hq:(i+j) / 2=q at hm hlt hi';have hw:IntKind.i64.wrap ((q:Int)+1)=((q+1:Nat):Int):=by have h0:=hb.1.1;rw [wrapI (by omega) (by omega)];omega
  simp -dsimp [go_sem,hN,hm,hlt,qbf];refine qab (c_less_str l[q] k) ?_;simp -dsimp [go_sem,hN];refine cnd (fun hc2=>?_) (fun hc2=>?_)
  ·
   simp -dsimp [go_sem,hN,hw];exact ⟨q+1,j,⟨by have:=hi'.2 hc2;omega,h2,h3⟩,by omega,wkA⟩
  ·
   simp -dsimp [go_sem,hN];refine ⟨i,q,⟨h1,?_,by omega⟩,by omega,wkA⟩;rcases Nat.lt_or_ge q (qc0 k l) with h5 | h5
   · have:=hi'.1 h5;rw [this] at hc2;cases hc2
   · exact h5
 ·
  have hi:i=qc0 k l:=by omega
  subst hi;by_cases hlt:qc0 k l<l.length
  ·
   simp -dsimp [go_sem,hN,hlt,qbf]
   repeat refine ⟨by grind,?_⟩
   refine qag (c_isNaN_str _) (by simp) ?_;simp -dsimp [go_sem,hN];refine qdk ?_;simp -dsimp [go_sem,hN];rw [List.getElem?_eq_getElem hlt];simp
  ·
   have hd:decide (qc0 k l<l.length)=false:=by simpa using hlt
   have hnone:l[qc0 k l]?=none:=List.getElem?_eq_none (by omega);simp -dsimp [go_sem,hN,hd,hnone];refine qdk ?_;simp -dsimp [go_sem,hN];refine qdk ?_;simp -dsimp [go_sem,hN];rw [hnone];simp
theorem c_with (h:qaa) (i:Nat) (l:List qac) (hi:h[i]?=some (.uarr 9 1 (l.map qbf))) (hlen:l.length+1≤68719476736) (key:qac) (ha:qb7 l) :
  ACalls Tryz.prog 216 [.own i l.length,S key] h fun r h'=>r=.ret (.own i (withS l key).length)∧h'=h.set i (.uarr 9 1 ((withS l key).map qbf)):=by
 refine acalls_intro Tryz.func216 rfl (by kernel_rfl) (by simp [Tryz.ntmps216]) ?_;intro E hN hh hu;rw [Tryz.ntmps216] at hN;have hil:i<h.length:=(List.getElem?_eq_some_iff.1 hi).1;have hn:(l.map qbf).length=l.length:=by simp
 have hB:=c_BinarySearch l key ha;refine qau (qcq ?_);simp [go_sem,hN];refine qau (awp_opsB [_,_] ?_);simp [go_sem,hN,borStep,borV,hi,hn];refine ⟨_,hB,by simp [flatB],?_⟩;simp [go_sem,hN];refine qau (qau (qcq ?_));simp [go_sem,hN];have hle:=posS_le key l;rcases hc:decide (l[qc0 key l]?=some key) with _ | _
 ·
  have hw:withS l key=l.take (qc0 key l)++key::l.drop (qc0 key l):=by rw [withS,if_neg (by simpa using hc)]
  refine awp_cond (b:=false) (by simpa [go_sem] using hc) (fun h=>by cases h) (fun _=>?_);refine awp_skip ?_;simp;refine qau (qb5 [_,_,_] _ ?_);simp [go_sem,hN];intro c a w s k;refine wp_insert laysI s k (T:=41) (x:=.tmp 17) (xa:=.tmp 15) (xb:=.tmp 16) (f:=.func 269) (d1:=18) rfl rfl rfl (by omega) (by simp [dstOk,hN]) rfl rfl (by simp [renI]) (by simp [renI]) (by simp [renI]) (by simp [go_sem]) (key:=key) (by simp [go_sem]) (i:=i) (n:=l.length) (by simp [go_sem]) (pos:=qc0 key l) (by simp [go_sem]) (by simp) (by simp) rfl hi hn hle hlen
   ⟨_,Tryz.func269,by kernel_rfl,by kernel_rfl⟩ fun c' a' w' s' k'=>?_
  refine qbd _ [_,_,_,_,_] _ rfl ?_ c' a' w' s' k';simp [go_sem,hN];have hl':(withS l key).length=l.length+1:=by rw [hw];simp;omega
  refine awp_ret ⟨⟨trivial,trivial⟩,.own i (l.length+1),_,?_,?_,hwk.refl _,?_,?_,by rw [hl'],by rw [hw];simp [List.map_take,List.map_drop,qbf,renI]⟩
  · simp [go_sem,hil]
  · simp [AV.under,hil]
  · simp
  ·
   rw [qbq] at hu ⊢;intro o ho;simp only [List.length_set];rcases List.mem_or_eq_of_mem_set ho with ho | rfl
   · exact hu o ho
   · rfl
 ·
  have hw:withS l key=l:=by rw [withS,if_pos (by simpa using hc)]
  refine awp_cond (b:=true) (by simpa [go_sem] using hc) (fun _=>?_) (fun h=>by cases h);refine qau (qcq ?_);simp [go_sem,hN];rw [hw,qcr hi];refine awp_ret ⟨⟨trivial,trivial⟩,.own i l.length,h,by simp [go_sem,hi],by simp [AV.under,hil],hwk.refl _,Nat.le_refl _,hu,rfl,rfl⟩
end Go.Proofs.YtbimdamecieomaaGreatDoor
