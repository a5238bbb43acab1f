/- Part 35 of a proof: W13, W19, W20, W21 -/
import Derived.Shelf.Small.Strs
import Derived.Shelf.Strconv.Itoa4
import Derived.Lib.ItoaLen
import Derived.Test.YtcjolkgjhcdhcaaGreatDoorR13
import Derived.Test.YtcjolkgjhcdhcaaGreatDoorR14
import Derived.Test.YtcjolkgjhcdhcaaGreatDoorR15
import Derived.Test.YtcjolkgjhcdhcaaGreatDoorR20
import Derived.Test.YtcjolkgjhcdhcaaGreatDoorR21
import Derived.Test.YtcjolkgjhcdhcaaGreatDoorR26
import Derived.Test.YtcjolkgjhcdhcaaGreatDoorR31
import Derived.Test.YtcjolkgjhcdhcaaGreatDoorR33
set_option linter.all false

set_option maxRecDepth 4000
namespace Go.Proofs.YtcjolkgjhcdhcaaGreatDoor
open Go Go.Abs Go.Cw
@[go_sem] theorem zero_int:zeroAV Tryz.prog 3=some (I 0):=by kernel_rfl
@[go_sem] theorem zero_bool:zeroAV Tryz.prog 4=some (Bo false):=by kernel_rfl
@[go_sem] theorem zero_Value:zeroAV Tryz.prog 71=some (.agg [I 0,I 0,S ⟨#[]⟩]):=by kernel_rfl
theorem c_types_of (vars:List (qac×Int)) (e:Ex) (d:Nat) (hv:chkE e d=0) (h:qab) (m:Nat) (hm:h[m]?=some (.map (kAV I vars))) :
  ACalls Tryz.prog 262 [.agg e.x,.mapr m] h fun r h'=>r=.ret (.tuple [I (ofE vars e).1,I (ofE vars e).2])∧h'=h:=by
 refine qav Tryz.func262 Tryz.ntmps262 rfl (by kernel_rfl) rfl fun E hN hh hu hb hb' hua=>?_;simp [go_sem] at hb;have hml:m<h.length:=(List.getElem?_eq_some_iff.1 hm).1;have a1:∀ l:qab,(h++l)[m]?=h[m]?:=fun l=>List.getElem?_append_left hml;simp -dsimp [go_sem,hN];refine cnd ?_ ?_<;>intro h0<;>simp at h0
 ·
  have ho:ofE vars e=varT (qbt vars e.s):=by rw [ofE_eq,if_pos h0]
  rcases hk:qbt vars e.s with _ | ty
  ·
   rw [hk] at ho;simp -dsimp [go_sem,hN,a1,hm,hk];rw [ho];exact ⟨_,.refl _,h,by simp [go_sem],by simp [go_sem],by simp,by simp [hu,go_sem],rfl,rfl⟩
  ·
   rw [hk] at ho;simp -dsimp [go_sem,hN,a1,hm,hk]
   repeat refine ⟨by grind,?_⟩
   refine cnd ?_ ?_<;>intro h1<;>simp at h1
   ·
    simp -dsimp [go_sem,hN];rw [ho,varT,if_pos (by omega)];exact ⟨_,.refl _,h,by simp [go_sem],by simp [go_sem],by simp,by simp [hu,go_sem],rfl,rfl⟩
   ·
    simp -dsimp [go_sem,hN];rw [ho,varT,if_neg (by omega)];exact ⟨_,.refl _,h,by simp [go_sem],by simp [go_sem],by simp,by simp [hu,go_sem],rfl,rfl⟩
 simp -dsimp [go_sem,hN];refine qas (α:=List Int) e.args.length (fun n o=>((ofL vars e.args).1=(ofL vars (e.args.drop n)).1∧((ofL vars e.args).1=0→(ofL vars e.args).2=o++(ofL vars (e.args.drop n)).2))∧o.length=n) (fun n o=>⟨[(1,.mapr m),(2,.ptr h.length 0),(8,.own (h.length+1) o.length),(39,.slice (e.args.map Ex.c)),(40,I e.args.length),(41,I n)],h++[.cells e.x,.arr 3 1 (o.map iRow)]⟩) [] (by simp) ((nil_wk E _ 8 3 1 rfl).trans ?_) ?_
 · exact (Wk.mk (by simp [hh]) (by simp [go_sem]) (by simp [hu,qag hu,go_sem]) (by simp [go_sem];omega))
 intro n o hn ⟨⟨hI1,hI2⟩,hol⟩;have hw:=qaq hn hb.2.1;simp -dsimp [go_sem,hN];refine cnd ?_ ?_<;>intro hc<;>simp at hc
 ·
  have hlt:SizeOf.sizeOf e.args[n]<SizeOf.sizeOf e:=Ex.arg_lt (List.getElem_mem hc);rw [qad hc,ofL] at hI1 hI2;simp -dsimp [go_sem,hN,hc];refine qan (c_types_of vars e.args[n] (d+1) (chkE_args hv _ (List.getElem_mem hc)) _ m (by rw [a1];exact hm)) ?_;rintro r h' ⟨rfl,rfl⟩;simp -dsimp [go_sem,hN];refine cnd ?_ ?_<;>intro h1<;>simp at h1
  ·
   simp -dsimp [go_sem,hN];rw [if_pos h1] at hI1;simp only at hI1;have ho:ofE vars e=(0,(ofE vars e.args[n]).2):=by rw [ofE_eq vars e,if_neg h0,if_pos (by rw [hI1];exact h1),hI1]
   rw [ho];exact ⟨_,.refl _,h,by simp [go_sem],by simp [go_sem],by simp,by simp [hu,go_sem],rfl,rfl⟩
  ·
   rw [if_neg (by simpa using h1)] at hI1 hI2;simp only at hI1 hI2;simp -dsimp [go_sem,hN,hw];refine ⟨by omega,hc,o++[(ofE vars e.args[n]).1],⟨⟨hI1,fun h2=>by rw [hI2 h2];simp⟩,by simp;omega⟩,?_⟩;exact (Wk.mk (by simp [hh]) (by simp [go_sem]) (by simp [hu,qag hu,go_sem]) (by simp [go_sem];omega))
 rw [List.drop_eq_nil_of_le (by omega),ofL] at hI1 hI2;simp only at hI1 hI2;have hI3:=hI2 hI1;rw [List.append_nil] at hI3;have hoe:=ofE_eq vars e;rw [if_neg h0,hI1,if_neg (by simp),hI3] at hoe;have har:=qd7 hv;simp -dsimp [go_sem,hN];refine cnd ?_ ?_<;>intro h1<;>simp at h1
 ·
  rw [if_pos h1] at hoe;have h2:o.length=2:=by
   have:qb0 e.op=2:=by unfold qb0;rw [if_neg (by omega),if_neg (by omega),if_neg (by omega)]
   omega
  obtain ⟨x,y,rfl⟩:∃ x y,o=[x,y]:=by
   match o,h2 with
   | [x,y],_=>exact ⟨x,y,rfl⟩
  simp at hoe;simp -dsimp [go_sem,hN];refine qah 13 mixed (by kernel_rfl) (by kernel_rfl) ?_;simp -dsimp [go_sem,hN,iRow];refine qae (c_types_compared e.op x) (by simp) ?_;simp -dsimp [go_sem,hN]
  repeat refine ⟨by grind,?_⟩
  refine cnd (fun h3=>?_) (fun h3=>?_)
  ·
   simp -dsimp [go_sem,hN];rw [hoe,if_pos (by simp at h3;grind)];exact ⟨_,.refl _,h,by simp [go_sem],by simp [go_sem],by simp,by simp [hu,go_sem],rfl,rfl⟩
  ·
   simp -dsimp [go_sem,hN];rw [hoe,if_neg (by simp at h3;grind)];exact ⟨_,.refl _,h,by simp [go_sem],by simp [go_sem],by simp,by simp [hu,go_sem],rfl,rfl⟩
 rw [if_neg (by omega)] at hoe;simp -dsimp [go_sem,hN];refine qaa (c_types_signature e.op) ?_;simp -dsimp [go_sem,hN];refine qaf o.length (fun n=>(o.drop n).all (fun t=>decide (t=(qci e.op).1))=o.all (fun t=>decide (t=(qci e.op).1))) (fun n=>⟨[(13,I (qci e.op).1),(14,I (qci e.op).2),(89,.slice (o.map iRow)),(90,I o.length),(91,I n)],h⟩) (by simp) ((norm_wk E _).trans ?_) ?_
 · exact (Wk.mk (by simp [hh]) (by simp [go_sem]) (by simp [hu,qag hu,go_sem]) (by simp [go_sem];try omega))
 intro n hn hJ;have hw:=qaq hn (by omega);simp -dsimp [go_sem,hN];refine cnd ?_ ?_<;>intro hc<;>simp at hc
 ·
  rw [qad hc,List.all_cons] at hJ;simp -dsimp [go_sem,hN,hc,iRow];refine cnd ?_ ?_<;>intro h3<;>simp at h3
  ·
   simp -dsimp [go_sem,hN];rw [hoe,if_neg (by rw [← hJ];simp [h3])];exact ⟨_,.refl _,h,by simp [go_sem],by simp [go_sem],by simp,by simp [hu,go_sem],rfl,rfl⟩
  ·
   simp -dsimp [go_sem,hN,hw];refine ⟨hc,by simpa [h3] using hJ,?_⟩;exact (Wk.mk (by simp [hh]) (by simp [go_sem]) (by simp [hu,qag hu,go_sem]) (by simp [go_sem];try omega))
 ·
  rw [List.drop_eq_nil_of_le (by omega)] at hJ;simp -dsimp [go_sem,hN];rw [hoe,if_pos (by rw [← hJ];rfl)];exact ⟨_,.refl _,h,by simp [go_sem],by simp [go_sem],by simp,by simp [hu,go_sem],rfl,rfl⟩
termination_by SizeOf.sizeOf e
end Go.Proofs.YtcjolkgjhcdhcaaGreatDoor

set_option maxRecDepth 4000
set_option maxHeartbeats 2000000
namespace Go.Proofs.YtcjolkgjhcdhcaaGreatDoor
open Go Go.Abs Go.Cw
def stopAV (z:Stop):AV:=.iface 137 (.agg [I z.status,I z.code,.slice [],S z.miss])
@[simp] theorem norm_stop (h:qab) (z:Stop):(stopAV z).norm h=stopAV z:=by simp [stopAV,AV.norm,qbc]
@[simp] theorem under_stop (n:Nat) (z:Stop):(stopAV z).under n=true:=by simp [stopAV,AV.under,qaw]
def endV:EV→AEnd
 | .ok v=>.ret (.agg v.c)
 | .error z=>.panic (stopAV z)
def endU:Except Stop Unit→AEnd
 | .ok _=>.ret (.tuple [])
 | .error z=>.panic (stopAV z)
theorem qa9 (code:Int) (h:qab):ACalls Tryz.prog 136 [I code] h fun r h'=>r=.panic (stopAV (ab code))∧h'=h:=by
 refine qav Tryz.func136 Tryz.ntmps136 rfl (by kernel_rfl) rfl fun E hN hh hu hb hb' hua=>?_;simp -dsimp [go_sem,hN];exact ⟨_,.refl _,h,by simp [go_sem],hwk.refl _,Nat.le_refl _,hu,rfl,rfl⟩
theorem qd0 (n:Int):APure Tryz.prog 163 [I n] (.agg (vI n).c):=by
 refine qaj Tryz.func163 Tryz.ntmps163 rfl (by kernel_rfl) rfl rfl fun E h hN hh hu hb=>?_;simp -dsimp [go_sem,hN];exact ⟨rfl,rfl,rfl⟩
theorem qbo (b:Bool):APure Tryz.prog 197 [Bo b] (.agg (vB b).c):=by
 refine qaj Tryz.func197 Tryz.ntmps197 rfl (by kernel_rfl) rfl rfl fun E h hN hh hu hb=>?_;simp -dsimp [go_sem,hN];refine cnd (fun h0=>?_) (fun h0=>?_)
 ·
  subst h0;simp -dsimp [go_sem,hN];exact ⟨rfl,rfl,rfl⟩
 ·
  subst h0;simp -dsimp [go_sem,hN];exact ⟨rfl,rfl,rfl⟩
theorem c_interp_must (b:Bool) (h:qab):ACalls Tryz.prog 138 [Bo b] h fun r h'=>r=(if b then .ret (.tuple []) else .panic (stopAV (ab 1009)))∧h'=h:=by
 refine qav Tryz.func138 Tryz.ntmps138 rfl (by kernel_rfl) rfl fun E hN hh hu hb hb' hua=>?_;simp -dsimp [go_sem,hN];refine cnd ?_ ?_<;>intro h0<;>simp at h0<;>subst h0
 ·
  simp -dsimp [go_sem,hN];refine qan (qa9 1009 h) ?_;rintro r h' ⟨rfl,rfl⟩;simp -dsimp [go_sem,hN];exact ⟨_,.refl _,_,by simp,hwk.refl _,Nat.le_refl _,hu,rfl,rfl⟩
 ·
  simp -dsimp [go_sem,hN];exact ⟨_,.refl _,_,by simp [go_sem],hwk.refl _,Nat.le_refl _,hu,rfl,rfl⟩
theorem c_interp_restart (k:qac) (h:qab):ACalls Tryz.prog 166 [S k] h fun r h'=>r=.panic (stopAV (rst k))∧h'=h:=by
 refine qav Tryz.func166 Tryz.ntmps166 rfl (by kernel_rfl) rfl fun E hN hh hu hb hb' hua=>?_;simp -dsimp [go_sem,hN];exact ⟨_,.refl _,h,by simp [go_sem],hwk.refl _,Nat.le_refl _,hu,rfl,rfl⟩
theorem c_interp_text (s:qac) (h:qab):ACalls Tryz.prog 198 [S s] h fun r h'=>r=endV (textS s)∧h'=h:=by
 refine qav Tryz.func198 Tryz.ntmps198 rfl (by kernel_rfl) rfl fun E hN hh hu hb hb' hua=>?_;simp -dsimp [go_sem,hN];refine cnd ?_ ?_<;>intro h0<;>simp at h0
 ·
  simp -dsimp [go_sem,hN];refine qan (qa9 1006 _) ?_;rintro r h' ⟨rfl,rfl⟩;simp -dsimp [go_sem,hN];rw [textS,if_pos (by omega)];exact ⟨_,.refl _,_,by simp [go_sem],by simp [go_sem],by simp,by simp [hu,go_sem],rfl,rfl⟩
 ·
  simp -dsimp [go_sem,hN];rw [textS,if_neg (by omega)];exact ⟨_,.refl _,h,by simp [go_sem],by simp [go_sem],by simp,by simp [hu,go_sem],rfl,rfl⟩
theorem qdd (r:Int×Int) (h:qab):ACalls Tryz.prog 195 [I r.1,I r.2] h fun x h'=>x=endV (qcf r)∧h'=h:=by
 refine qav Tryz.func195 Tryz.ntmps195 rfl (by kernel_rfl) rfl fun E hN hh hu hb hb' hua=>?_;simp -dsimp [go_sem,hN];refine cnd ?_ ?_<;>intro h0<;>simp at h0
 ·
  simp -dsimp [go_sem,hN];refine qaa (qd0 r.1) ?_;simp -dsimp [go_sem,hN];rw [qcf,if_pos h0];exact ⟨_,.refl _,h,by simp [go_sem],by simp [go_sem],by simp,by simp [hu,go_sem],rfl,rfl⟩
 simp -dsimp [go_sem,hN];refine cnd ?_ ?_<;>intro h1<;>simp at h1
 ·
  simp -dsimp [go_sem,hN];refine qan (qa9 1002 _) ?_;rintro r' h' ⟨rfl,rfl⟩;simp -dsimp [go_sem,hN];rw [qcf,if_neg h0,if_pos h1];exact ⟨_,.refl _,h,by simp [go_sem],by simp [go_sem],by simp,by simp [hu,go_sem],rfl,rfl⟩
 ·
  simp -dsimp [go_sem,hN];refine qan (qa9 1001 _) ?_;rintro r' h' ⟨rfl,rfl⟩;simp -dsimp [go_sem,hN];rw [qcf,if_neg h0,if_neg h1];exact ⟨_,.refl _,h,by simp [go_sem],by simp [go_sem],by simp,by simp [hu,go_sem],rfl,rfl⟩
theorem qcg (op a b:Int) (h:qab):ACalls Tryz.prog 201 [I op,I a,I b] h fun x h'=>x=endV (qd9 op a b)∧h'=h:=by
 refine qav Tryz.func201 Tryz.ntmps201 rfl (by kernel_rfl) rfl fun E hN hh hu hb hb' hua=>?_;simp -dsimp [go_sem,hN];refine cnd ?_ ?_<;>intro h0<;>simp at h0
 ·
  simp -dsimp [go_sem,hN];refine qaa (c_num_Add a b) ?_;simp -dsimp [go_sem,hN];refine qan (qdd (numAdd a b) _) ?_;rintro r' h' ⟨rfl,rfl⟩;rw [qd9, if_pos h0];cases qcf (numAdd a b)<;>simp -dsimp [go_sem,hN,endV]<;>exact ⟨_,.refl _,h,by simp [go_sem],by simp [go_sem],by simp,by simp [hu,go_sem],rfl,rfl⟩
 simp -dsimp [go_sem,hN];refine cnd ?_ ?_<;>intro h1<;>simp at h1
 ·
  simp -dsimp [go_sem,hN];refine qaa (c_num_Sub a b) ?_;simp -dsimp [go_sem,hN];refine qan (qdd (qcq a b) _) ?_;rintro r' h' ⟨rfl,rfl⟩;rw [qd9,if_neg h0,if_pos h1];cases qcf (qcq a b)<;>simp -dsimp [go_sem,hN,endV]<;>exact ⟨_,.refl _,h,by simp [go_sem],by simp [go_sem],by simp,by simp [hu,go_sem],rfl,rfl⟩
 simp -dsimp [go_sem,hN];refine cnd ?_ ?_<;>intro h2<;>simp at h2
 ·
  simp -dsimp [go_sem,hN];refine qaa (c_num_Mul a b) ?_;simp -dsimp [go_sem,hN];refine qan (qdd (numMul a b) _) ?_;rintro r' h' ⟨rfl,rfl⟩;rw [qd9,if_neg h0,if_neg h1,if_pos h2];cases qcf (numMul a b)<;>simp -dsimp [go_sem,hN,endV]<;>exact ⟨_,.refl _,h,by simp [go_sem],by simp [go_sem],by simp,by simp [hu,go_sem],rfl,rfl⟩
 simp -dsimp [go_sem,hN];refine cnd ?_ ?_<;>intro h3<;>simp at h3
 ·
  simp -dsimp [go_sem,hN];refine qaa (c_num_Div a b) ?_;simp -dsimp [go_sem,hN];refine qan (qdd (numDiv a b) _) ?_;rintro r' h' ⟨rfl,rfl⟩;rw [qd9,if_neg h0,if_neg h1,if_neg h2,if_pos h3];cases qcf (numDiv a b)<;>simp -dsimp [go_sem,hN,endV]<;>exact ⟨_,.refl _,h,by simp [go_sem],by simp [go_sem],by simp,by simp [hu,go_sem],rfl,rfl⟩
 simp -dsimp [go_sem,hN];refine qaa (c_num_Mod a b) ?_;simp -dsimp [go_sem,hN];refine qan (qdd (numMod a b) _) ?_;rintro r' h' ⟨rfl,rfl⟩;rw [qd9,if_neg h0,if_neg h1,if_neg h2,if_neg h3];cases qcf (numMod a b)<;>simp -dsimp [go_sem,hN,endV]<;>exact ⟨_,.refl _,h,by simp [go_sem],by simp [go_sem],by simp,by simp [hu,go_sem],rfl,rfl⟩
theorem qdx (b:Bool) (h:qab):ACalls Tryz.prog 138 [Bo b] h fun r h'=>((b=true∧r=.ret (.tuple []))∨(b=false∧r=.panic (stopAV (ab 1009))))∧h'=h :=
 (c_interp_must b h).mono (by
  rintro r h' ⟨rfl,rfl⟩;cases b
  · exact ⟨.inr ⟨rfl,rfl⟩,rfl⟩
  · exact ⟨.inl ⟨rfl,rfl⟩,rfl⟩)
theorem c_interp_compare (op:Int) (a b:V) (h:qab):ACalls Tryz.prog 202 [I op,.agg a.c,.agg b.c] h fun x h'=>x=endV (compS op a b)∧h'=h:=by
 refine qav Tryz.func202 Tryz.ntmps202 rfl (by kernel_rfl) rfl fun E hN hh hu hb hb' hua=>?_;simp -dsimp [go_sem,hN]
 repeat refine ⟨by grind,?_⟩
 refine qan (qdx _ _) ?_;rintro r h' ⟨⟨hm,rfl⟩ | ⟨hm,rfl⟩,rfl⟩<;>simp at hm
 rotate_left
 ·
  simp -dsimp [go_sem,hN];rw [compS,if_neg (by grind)];exact ⟨_,.refl _,h,by simp [go_sem],by simp [go_sem],by simp,by simp [hu,go_sem],rfl,rfl⟩
 rw [compS,if_pos (by grind)];simp -dsimp [go_sem,hN];refine qaa (c_value_Compare a b) ?_;simp -dsimp [go_sem,hN];refine cnd ?_ ?_<;>intro h0<;>simp at h0
 ·
  simp -dsimp [go_sem,hN];refine qaa (qbo (decide (cmpV a b=0))) ?_;simp -dsimp [go_sem,hN];rw [cmpBy, if_pos h0];exact ⟨_,.refl _,h,by simp [go_sem],by simp [go_sem],by simp,by simp [hu,go_sem],rfl,rfl⟩
 simp -dsimp [go_sem,hN];refine cnd ?_ ?_<;>intro h1<;>simp at h1
 ·
  simp -dsimp [go_sem,hN];refine qaa (qbo (!decide (cmpV a b=0))) ?_;simp -dsimp [go_sem,hN];rw [cmpBy,if_neg h0,if_pos h1];exact ⟨_,.refl _,h,by simp [go_sem],by simp [go_sem],by simp,by simp [hu,go_sem],rfl,rfl⟩
 simp -dsimp [go_sem,hN];refine cnd ?_ ?_<;>intro h2<;>simp at h2
 ·
  simp -dsimp [go_sem,hN];refine qaa (qbo (decide (cmpV a b<0))) ?_;simp -dsimp [go_sem,hN];rw [cmpBy,if_neg h0,if_neg h1,if_pos h2];exact ⟨_,.refl _,h,by simp [go_sem],by simp [go_sem],by simp,by simp [hu,go_sem],rfl,rfl⟩
 simp -dsimp [go_sem,hN];refine cnd ?_ ?_<;>intro h3<;>simp at h3
 ·
  simp -dsimp [go_sem,hN];refine qaa (qbo (decide (cmpV a b≤0))) ?_;simp -dsimp [go_sem,hN];rw [cmpBy,if_neg h0,if_neg h1,if_neg h2,if_pos h3];exact ⟨_,.refl _,h,by simp [go_sem],by simp [go_sem],by simp,by simp [hu,go_sem],rfl,rfl⟩
 simp -dsimp [go_sem,hN];refine cnd ?_ ?_<;>intro h4<;>simp at h4
 ·
  simp -dsimp [go_sem,hN];refine qaa (qbo (decide (0<cmpV a b))) ?_;simp -dsimp [go_sem,hN];rw [cmpBy,if_neg h0,if_neg h1,if_neg h2,if_neg h3,if_pos h4];exact ⟨_,.refl _,h,by simp [go_sem],by simp [go_sem],by simp,by simp [hu,go_sem],rfl,rfl⟩
 simp -dsimp [go_sem,hN];refine qaa (qbo (decide (0≤cmpV a b))) ?_;simp -dsimp [go_sem,hN];rw [cmpBy,if_neg h0,if_neg h1,if_neg h2,if_neg h3,if_neg h4];exact ⟨_,.refl _,h,by simp [go_sem],by simp [go_sem],by simp,by simp [hu,go_sem],rfl,rfl⟩
theorem c_interp_binary (op:Int) (a b:V) (h:qab) (hS:a.s.size+b.s.size≤68719476736):ACalls Tryz.prog 165 [I op,.agg a.c,.agg b.c] h fun x h'=>x=endV (binS op a b)∧h'=h:=by
 refine qav Tryz.func165 Tryz.ntmps165 rfl (by kernel_rfl) rfl fun E hN hh hu hb hb' hua=>?_;simp -dsimp [go_sem,hN];refine cnd ?_ ?_<;>intro h0<;>simp at h0
 ·
  simp -dsimp [go_sem,hN,decide_eq_true h0]
  repeat refine ⟨by grind,?_⟩
  refine qan (qdx _ _) ?_;rintro r h' ⟨⟨hm,rfl⟩ | ⟨hm,rfl⟩,rfl⟩<;>simp at hm
  ·
   simp -dsimp [go_sem,hN];refine qan (qcg op a.n b.n _) ?_;rintro r' h' ⟨rfl,rfl⟩;rw [binS,if_pos (by omega),if_pos (by grind)];cases qd9 op a.n b.n<;>simp -dsimp [go_sem,hN,endV]<;>exact ⟨_,.refl _,h,by simp [go_sem],by simp [go_sem],by simp,by simp [hu,go_sem],rfl,rfl⟩
  ·
   simp -dsimp [go_sem,hN];rw [binS,if_pos (by omega),if_neg (by grind)];exact ⟨_,.refl _,h,by simp [go_sem],by simp [go_sem],by simp,by simp [hu,go_sem],rfl,rfl⟩
 simp -dsimp [go_sem,hN];refine cnd ?_ ?_<;>intro h1<;>simp at h1
 ·
  simp -dsimp [go_sem,hN,decide_eq_true h1]
  repeat refine ⟨by grind,?_⟩
  refine qan (qdx _ _) ?_;rintro r h' ⟨⟨hm,rfl⟩ | ⟨hm,rfl⟩,rfl⟩<;>simp at hm
  ·
   simp -dsimp [go_sem,hN];refine qan (qcg op a.n b.n _) ?_;rintro r' h' ⟨rfl,rfl⟩;rw [binS,if_pos (by omega),if_pos (by grind)];cases qd9 op a.n b.n<;>simp -dsimp [go_sem,hN,endV]<;>exact ⟨_,.refl _,h,by simp [go_sem],by simp [go_sem],by simp,by simp [hu,go_sem],rfl,rfl⟩
  ·
   simp -dsimp [go_sem,hN];rw [binS,if_pos (by omega),if_neg (by grind)];exact ⟨_,.refl _,h,by simp [go_sem],by simp [go_sem],by simp,by simp [hu,go_sem],rfl,rfl⟩
 simp -dsimp [go_sem,hN];refine cnd ?_ ?_<;>intro h2<;>simp at h2
 ·
  simp -dsimp [go_sem,hN,decide_eq_true h2]
  repeat refine ⟨by grind,?_⟩
  refine qan (qdx _ _) ?_;rintro r h' ⟨⟨hm,rfl⟩ | ⟨hm,rfl⟩,rfl⟩<;>simp at hm
  ·
   simp -dsimp [go_sem,hN];refine qan (qcg op a.n b.n _) ?_;rintro r' h' ⟨rfl,rfl⟩;rw [binS,if_pos (by omega),if_pos (by grind)];cases qd9 op a.n b.n<;>simp -dsimp [go_sem,hN,endV]<;>exact ⟨_,.refl _,h,by simp [go_sem],by simp [go_sem],by simp,by simp [hu,go_sem],rfl,rfl⟩
  ·
   simp -dsimp [go_sem,hN];rw [binS,if_pos (by omega),if_neg (by grind)];exact ⟨_,.refl _,h,by simp [go_sem],by simp [go_sem],by simp,by simp [hu,go_sem],rfl,rfl⟩
 simp -dsimp [go_sem,hN];refine cnd ?_ ?_<;>intro h3<;>simp at h3
 ·
  simp -dsimp [go_sem,hN,decide_eq_true h3]
  repeat refine ⟨by grind,?_⟩
  refine qan (qdx _ _) ?_;rintro r h' ⟨⟨hm,rfl⟩ | ⟨hm,rfl⟩,rfl⟩<;>simp at hm
  ·
   simp -dsimp [go_sem,hN];refine qan (qcg op a.n b.n _) ?_;rintro r' h' ⟨rfl,rfl⟩;rw [binS,if_pos (by omega),if_pos (by grind)];cases qd9 op a.n b.n<;>simp -dsimp [go_sem,hN,endV]<;>exact ⟨_,.refl _,h,by simp [go_sem],by simp [go_sem],by simp,by simp [hu,go_sem],rfl,rfl⟩
  ·
   simp -dsimp [go_sem,hN];rw [binS,if_pos (by omega),if_neg (by grind)];exact ⟨_,.refl _,h,by simp [go_sem],by simp [go_sem],by simp,by simp [hu,go_sem],rfl,rfl⟩
 simp -dsimp [go_sem,hN];refine cnd ?_ ?_<;>intro h4<;>simp at h4
 ·
  simp -dsimp [go_sem,hN]
  repeat refine ⟨by grind,?_⟩
  refine qan (qdx _ _) ?_;rintro r h' ⟨⟨hm,rfl⟩ | ⟨hm,rfl⟩,rfl⟩<;>simp at hm
  ·
   simp -dsimp [go_sem,hN];refine qan (qcg op a.n b.n _) ?_;rintro r' h' ⟨rfl,rfl⟩;rw [binS,if_pos (by omega),if_pos (by grind)];cases qd9 op a.n b.n<;>simp -dsimp [go_sem,hN,endV]<;>exact ⟨_,.refl _,h,by simp [go_sem],by simp [go_sem],by simp,by simp [hu,go_sem],rfl,rfl⟩
  ·
   simp -dsimp [go_sem,hN];rw [binS,if_pos (by omega),if_neg (by grind)];exact ⟨_,.refl _,h,by simp [go_sem],by simp [go_sem],by simp,by simp [hu,go_sem],rfl,rfl⟩
 simp -dsimp [go_sem,hN];refine cnd ?_ ?_<;>intro h5<;>simp at h5
 ·
  simp -dsimp [go_sem,hN]
  repeat refine ⟨by grind,?_⟩
  refine qan (qdx _ _) ?_;rintro r h' ⟨⟨hm,rfl⟩ | ⟨hm,rfl⟩,rfl⟩<;>simp at hm
  rotate_left
  ·
   simp -dsimp [go_sem,hN];rw [binS,if_neg (by omega),if_pos h5,if_neg (by grind)];exact ⟨_,.refl _,h,by simp [go_sem],by simp [go_sem],by simp,by simp [hu,go_sem],rfl,rfl⟩
  rw [binS,if_neg (by omega),if_pos h5,if_pos (by grind)];simp -dsimp [go_sem,hN]
  repeat refine ⟨by grind,?_⟩
  refine qaa (qbo (decide (a.n=1)&&decide (b.n=1))) ?_;simp -dsimp [go_sem,hN];exact ⟨_,.refl _,h,by simp [go_sem],by simp [go_sem],by simp,by simp [hu,go_sem],rfl,rfl⟩
 simp -dsimp [go_sem,hN];refine cnd ?_ ?_<;>intro h6<;>simp at h6
 ·
  simp -dsimp [go_sem,hN]
  repeat refine ⟨by grind,?_⟩
  refine qan (qdx _ _) ?_;rintro r h' ⟨⟨hm,rfl⟩ | ⟨hm,rfl⟩,rfl⟩<;>simp at hm
  rotate_left
  ·
   simp -dsimp [go_sem,hN];rw [binS,if_neg (by omega),if_neg h5,if_pos h6,if_neg (by grind)];exact ⟨_,.refl _,h,by simp [go_sem],by simp [go_sem],by simp,by simp [hu,go_sem],rfl,rfl⟩
  rw [binS,if_neg (by omega),if_neg h5,if_pos h6,if_pos (by grind)];simp -dsimp [go_sem,hN]
  repeat refine ⟨by grind,?_⟩
  refine qaa (qbo (decide (a.n=1)||decide (b.n=1))) ?_;simp -dsimp [go_sem,hN];exact ⟨_,.refl _,h,by simp [go_sem],by simp [go_sem],by simp,by simp [hu,go_sem],rfl,rfl⟩
 simp -dsimp [go_sem,hN];refine cnd ?_ ?_<;>intro h7<;>simp at h7
 ·
  simp -dsimp [go_sem,hN]
  repeat refine ⟨by grind,?_⟩
  refine qan (qdx _ _) ?_;rintro r h' ⟨⟨hm,rfl⟩ | ⟨hm,rfl⟩,rfl⟩<;>simp at hm
  rotate_left
  ·
   simp -dsimp [go_sem,hN];rw [binS,if_neg (by omega),if_neg h5,if_neg h6,if_pos h7,if_neg (by grind)];exact ⟨_,.refl _,h,by simp [go_sem],by simp [go_sem],by simp,by simp [hu,go_sem],rfl,rfl⟩
  rw [binS,if_neg (by omega),if_neg h5,if_neg h6,if_pos h7,if_pos (by grind)];simp -dsimp [go_sem,hN];refine ⟨hS,?_⟩;refine qan (c_interp_text (a.s++b.s) _) ?_;rintro r' h' ⟨rfl,rfl⟩;cases textS (a.s++b.s)<;>simp -dsimp [go_sem,hN,endV]<;>exact ⟨_,.refl _,h,by simp [go_sem],by simp [go_sem],by simp,by simp [hu,go_sem],rfl,rfl⟩
 simp -dsimp [go_sem,hN];refine qan (c_interp_compare op a b _) ?_;rintro r' h' ⟨rfl,rfl⟩;rw [binS,if_neg (by omega),if_neg h5,if_neg h6,if_neg h7];cases compS op a b<;>simp -dsimp [go_sem,hN,endV]<;>exact ⟨_,.refl _,h,by simp [go_sem],by simp [go_sem],by simp,by simp [hu,go_sem],rfl,rfl⟩
end Go.Proofs.YtcjolkgjhcdhcaaGreatDoor

set_option maxRecDepth 4000
namespace Go.Proofs.YtcjolkgjhcdhcaaGreatDoor
open Go Go.Abs Go.Cw Go.Shelf
def renF:Ren:=⟨fun
 | 129=>300 | 173=>238 | 246=>263 | 283=>285 | 284=>286 | 285=>287 | 286=>288
 | 317=>299 | 318=>301 | 319=>302 | 320=>303 | 337=>305 | 338=>306 | x=>x,
 fun | 0=>0 | 2=>2 | 3=>3 | 4=>4 | 5=>5 | 9=>9 | 20=>20 | 37=>287 | 46=>156 | 51=>295 | 53=>198 | 171=>284 | 173=>288 | 212=>294 | 213=>296 | 232=>300 | 233=>301 | x=>x,
 fun | 17=>1 | 18=>2 | 19=>3 | x=>x⟩
theorem laysF0:Lays.n173 Tryz.prog renF:=by
 constructor<;>first | exact fun _=>by kernel_rfl | kernel_rfl
theorem laysF:LaysM.n173 Tryz.prog renF:={ laysF0 with i0:=by kernel_rfl,i2:=by kernel_rfl,i3:=by kernel_rfl,i4:=by kernel_rfl,i5:=by kernel_rfl,i9:=by kernel_rfl,i20:=by kernel_rfl,i37:=by kernel_rfl,i46:=by kernel_rfl,i51:=by kernel_rfl,i53:=by kernel_rfl,i171:=by kernel_rfl,i173:=by kernel_rfl,i212:=by kernel_rfl,i232:=by kernel_rfl,i233:=by kernel_rfl,m17:=by kernel_rfl,m18:=by kernel_rfl,m19:=by kernel_rfl }
def tabV:Array Value:=(Lib.pow10Tab.map fun z=>Value.int .u64 z).toArray
def tabO (T:TypeId) (x:Nat×Nat):AObj:=.raw 1 (fun _=>.cells tabV T x) []
def qb3 (n:Int):qac:=⟨(Lib.itoa n).toArray⟩
theorem hsim_grow {c:Ctx} {h:qab} {w:World} (hs:HSim c h w) (k:Nat) (os:Array Obj):HSim c h (Sort.grow (w.drewN k) os)∧(⟨0,c,h,w⟩:Ent).ok c h (Sort.grow (w.drewN k) os):=by
 have hw:∀ b,b<w.heap.size→(Sort.grow (w.drewN k) os).heap[b]?=w.heap[b]?:=fun b hb=>by
  show (w.heap++os)[b]?=_;rw [Array.getElem?_append_left hb]
 refine ⟨hs.ext hw (.refl c) (fun _ _=>rfl) (fun _ _ _ h=>.inl h) hs.dom,?_⟩;exact (Ent.ok.refl 0 hs).ext' hs hw (.refl c) (fun _=>rfl) rfl rfl rfl (by show _≤(w.heap++os).size;simp) (fun _ _ _ h=>.inl h)
theorem c_FormatInt (n:Int) (hn:i64 n) (h:qab) (g:Nat) {T:TypeId} {x:Nat×Nat} (hg:h[g]?=some (tabO T x)) (hsz:(qb3 n).size≤68719476736) :
  ACalls Tryz.prog 238 [I n,I 10] h fun r h'=>r=.ret (S (qb3 n))∧h'=h:=by
 refine ⟨⟨_,laysF.f173,rfl,rfl⟩,fun c w vs hs ha=>?_⟩;obtain ⟨hb,us,hv,_⟩:=hs.obj _ _ hg
 have htab:Lib.TabIs Tryz.prog w "internal/strconv.uint64pow10" .u64 Lib.pow10Tab:=by
  unfold Lib.TabIs World.var?;rw [laysF.m17];simp only [Option.bind_some];show (match w.heap[1]? with | some (.cells cs _ _)=>some cs | _=>none)=_;rw [hv];rfl
 have he:vs = #[.int .i64 n,.int .i64 10]:=relL_vals (l:=[.int .i64 n,.int .i64 10]) ha;rw [he];refine (Any.strconv_FormatInt_10 laysF n hn.1 hn.2 w htab).mono ?_;rintro e w' ⟨rfl,k,os,rfl⟩;obtain ⟨g1,g2⟩:=hsim_grow hs k os;exact ⟨_,h,c,⟨rfl,rfl⟩,.val _ (by simpa [strOk] using hsz),g1,g2⟩
theorem c_num_Format (n:Int) (hn:i64 n) (h:qab) (g:Nat) {T:TypeId} {x:Nat×Nat} (hg:h[g]?=some (tabO T x)) :
  ACalls Tryz.prog 199 [I n] h fun r h'=>r=.ret (S (qb3 n))∧h'=h:=by
 have hsz:(qb3 n).size≤68719476736:=by
  have:=Lib.itoa_length_le n hn.1 hn.2;show (Lib.itoa n).length≤_;omega
 refine qav Tryz.func199 Tryz.ntmps199 rfl (by kernel_rfl) rfl fun E hN hh hu hb hb' hua=>?_;simp -dsimp [go_sem,hN];refine qan (c_FormatInt n hn h g hg hsz) ?_;rintro r h' ⟨rfl,rfl⟩;simp -dsimp [go_sem,hN];exact ⟨_,.refl _,_,rfl,hwk.refl _,Nat.le_refl _,hu,rfl,rfl⟩
end Go.Proofs.YtcjolkgjhcdhcaaGreatDoor

set_option maxRecDepth 4000
namespace Go.Proofs.YtcjolkgjhcdhcaaGreatDoor
open Go Go.Abs Go.Cw Go.Shelf Go.Lib
def renI:Ren:=⟨fun | 17=>291 | 22=>203 | 29=>246 | 30=>247 | 36=>267 | x=>x,fun | 0=>0 | 3=>3 | 4=>4 | 9=>9 | 24=>37 | x=>x,fun x=>x⟩
theorem laysI:Lays2.n22 Tryz.prog renI:=by
 constructor<;>first | exact fun _=>by kernel_rfl | kernel_rfl
theorem c_cmpNaN_str (s:qac):APure Tryz.prog 152 [S s] (Bo false):=by
 refine qaj Tryz.func152 Tryz.ntmps152 rfl (by kernel_rfl) rfl rfl fun E h hN hh hu hb=>?_;simp -dsimp [go_sem,hN]
theorem c_isNaN_str (s:qac):APure Tryz.prog 130 [S s] (Bo false):=by
 refine qaj Tryz.func130 Tryz.ntmps130 rfl (by kernel_rfl) rfl rfl fun E h hN hh hu hb=>?_;simp -dsimp [go_sem,hN]
theorem c_less_str (a b:qac):APure Tryz.prog 129 [S a,S b] (Bo (sLt a b)):=by
 refine qaj Tryz.func129 Tryz.ntmps129 rfl (by kernel_rfl) rfl rfl fun E h hN hh hu hb=>?_;simp -dsimp [go_sem,hN];refine qaa (c_cmpNaN_str a) ?_;simp -dsimp [go_sem,hN];refine qdh ?_;simp -dsimp [go_sem,hN]
theorem c_BinarySearch (l:List qac) (k:qac) (hs:qec l):APure Tryz.prog 103 [.slice (l.map qbd),S k] (.tuple [I (posS k l),Bo (decide (l[posS k l]?=some k))]):=by
 refine qaj Tryz.func103 Tryz.ntmps103 rfl (by kernel_rfl) rfl rfl fun E h hN hh hu hb=>?_;simp [go_sem] at hb;have hp:=posS_le k l;simp -dsimp [go_sem,hN];refine awp_loopM (α:=Nat×Nat) (fun x=>x.1≤posS k l∧posS k l≤x.2∧x.2≤l.length) (fun x=>⟨[(0,.slice (l.map qbd)),(1,S k),(6,I l.length),(7,I x.1),(8,I x.2)],h⟩) (fun x=>x.2 - x.1) (0,l.length) ⟨by simp,hp,by simp⟩ wkA ?_;rintro ⟨i,j⟩ ⟨h1,h2,h3⟩;simp only at h1 h2 h3;simp -dsimp [go_sem,hN];refine cnd ?_ ?_<;>intro hc<;>simp at hc
 ·
  have hm:IntKind.i64.wrap ((IntKind.u64.wrap (IntKind.i64.wrap ((i:Int)+j))).fdiv 2)=(((i+j) / 2:Nat):Int):=by
   have h0:=hb.1.1;have e0:IntKind.i64.wrap ((i:Int)+j)=(i:Int)+j:=wrapI (by omega) (by omega);rw [e0];have:IntKind.u64.wrap ((i:Int)+j)=(i:Int)+j:=by
    simp only [IntKind.wrap,IntKind.bits,IntKind.signed];simp;omega
   rw [this];have e1:((i:Int)+j).fdiv 2=(((i+j) / 2:Nat):Int):=by
    rw [Int.fdiv_eq_ediv_of_nonneg _ (by omega)];omega
   rw [e1,wrapI (by omega) (by omega)]
  have hlt:(i+j) / 2<l.length:=by omega
  have hi':=posS_lt (k:=k) hs ((i+j) / 2) hlt;generalize hq:(i+j) / 2=q at hm hlt hi';have hw:IntKind.i64.wrap ((q:Int)+1)=((q+1:Nat):Int):=by have h0:=hb.1.1;rw [wrapI (by omega) (by omega)];omega
  simp -dsimp [go_sem,hN,hm,hlt,qbd];refine qaa (c_less_str l[q] k) ?_;simp -dsimp [go_sem,hN];refine cnd (fun hc2=>?_) (fun hc2=>?_)
  ·
   simp -dsimp [go_sem,hN,hw];exact ⟨q+1,j,⟨by have:=hi'.2 hc2;omega,h2,h3⟩,by omega,wkA⟩
  ·
   simp -dsimp [go_sem,hN];refine ⟨i,q,⟨h1,?_,by omega⟩,by omega,wkA⟩;rcases Nat.lt_or_ge q (posS k l) with h5 | h5
   · have:=hi'.1 h5;rw [this] at hc2;cases hc2
   · exact h5
 ·
  have hi:i=posS k l:=by omega
  subst hi;by_cases hlt:posS k l<l.length
  ·
   simp -dsimp [go_sem,hN,hlt,qbd]
   repeat refine ⟨by grind,?_⟩
   refine qae (c_isNaN_str _) (by simp) ?_;simp -dsimp [go_sem,hN];refine qdh ?_;simp -dsimp [go_sem,hN];rw [List.getElem?_eq_getElem hlt];simp
  ·
   have hd:decide (posS k l<l.length)=false:=by simpa using hlt
   have hnone:l[posS k l]?=none:=List.getElem?_eq_none (by omega);simp -dsimp [go_sem,hN,hd,hnone];refine qdh ?_;simp -dsimp [go_sem,hN];refine qdh ?_;simp -dsimp [go_sem,hN];rw [hnone];simp
theorem c_with (h:qab) (i:Nat) (l:List qac) (hi:h[i]?=some (.uarr 9 1 (l.map qbd))) (hlen:l.length+1≤68719476736) (key:qac) (ha:qec l) :
  ACalls Tryz.prog 167 [.own i l.length,S key] h fun r h'=>r=.ret (.own i (qeb l key).length)∧h'=h.set i (.uarr 9 1 ((qeb l key).map qbd)):=by
 refine acalls_intro Tryz.func167 rfl (by kernel_rfl) (by simp [Tryz.ntmps167]) ?_;intro E hN hh hu;rw [Tryz.ntmps167] at hN;have hil:i<h.length:=(List.getElem?_eq_some_iff.1 hi).1;have hn:(l.map qbd).length=l.length:=by simp
 have hB:=c_BinarySearch l key ha;refine qcx (awp_ops ?_);simp [go_sem,hN];refine qcx (awp_opsB [_,_] ?_);simp [go_sem,hN,borStep,borV,hi,hn];refine ⟨_,hB,by simp [flatB],?_⟩;simp [go_sem,hN];refine qcx (qcx (awp_ops ?_));simp [go_sem,hN];have hle:=posS_le key l;rcases hc:decide (l[posS key l]?=some key) with _ | _
 ·
  have hw:qeb l key=l.take (posS key l)++key::l.drop (posS key l):=by rw [qeb,if_neg (by simpa using hc)]
  refine awp_cond (b:=false) (by simpa [go_sem] using hc) (fun h=>by cases h) (fun _=>?_);refine awp_skip ?_;simp;refine qcx (awp_opsT [_,_,_] _ ?_);simp [go_sem,hN];intro c a w s k;refine wp_insert laysI s k (T:=37) (x:=.tmp 17) (xa:=.tmp 15) (xb:=.tmp 16) (f:=.func 203) (d1:=18) rfl rfl rfl (by omega) (by simp [dstOk,hN]) rfl rfl (by simp [renI]) (by simp [renI]) (by simp [renI]) (by simp [go_sem]) (key:=key) (by simp [go_sem]) (i:=i) (n:=l.length) (by simp [go_sem]) (pos:=posS key l) (by simp [go_sem]) (by simp) (by simp) rfl hi hn hle hlen
   ⟨_,Tryz.func203,by kernel_rfl,by kernel_rfl⟩ fun c' a' w' s' k'=>?_
  refine qdb _ [_,_,_,_,_] _ rfl ?_ c' a' w' s' k';simp [go_sem,hN];have hl':(qeb l key).length=l.length+1:=by rw [hw];simp;omega
  refine awp_ret ⟨⟨trivial,trivial⟩,.own i (l.length+1),_,?_,?_,hwk.refl _,?_,?_,by rw [hl'],by rw [hw];simp [List.map_take,List.map_drop,qbd,renI]⟩
  · simp [go_sem,hil]
  · simp [AV.under,hil]
  · simp
  ·
   rw [hUnder_iff] at hu ⊢;intro o ho;simp only [List.length_set];rcases List.mem_or_eq_of_mem_set ho with ho | rfl
   · exact hu o ho
   · rfl
 ·
  have hw:qeb l key=l:=by rw [qeb,if_pos (by simpa using hc)]
  refine awp_cond (b:=true) (by simpa [go_sem] using hc) (fun _=>?_) (fun h=>by cases h);refine qcx (awp_ops ?_);simp [go_sem,hN];rw [hw,set_same hi];refine awp_ret ⟨⟨trivial,trivial⟩,.own i l.length,h,by simp [go_sem,hi],by simp [AV.under,hil],hwk.refl _,Nat.le_refl _,hu,rfl,rfl⟩
end Go.Proofs.YtcjolkgjhcdhcaaGreatDoor
