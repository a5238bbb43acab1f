/- Part 35 of a proof: W19, W20, W21, W22 -/
import Derived.Shelf.Small.Strs
import Derived.Shelf.Strconv.Itoa4
import Derived.Lib.ItoaLen
import Derived.Test.YtilhejdbiionhaaGreatDoorR13
import Derived.Test.YtilhejdbiionhaaGreatDoorR14
import Derived.Test.YtilhejdbiionhaaGreatDoorR16
import Derived.Test.YtilhejdbiionhaaGreatDoorR17
import Derived.Test.YtilhejdbiionhaaGreatDoorR21
import Derived.Test.YtilhejdbiionhaaGreatDoorR22
import Derived.Test.YtilhejdbiionhaaGreatDoorR27
import Derived.Test.YtilhejdbiionhaaGreatDoorR31
import Derived.Test.YtilhejdbiionhaaGreatDoorR32
import Derived.Test.YtilhejdbiionhaaGreatDoorR34
set_option linter.all false

set_option maxRecDepth 4000
set_option maxHeartbeats 2000000
namespace Go.Proofs.YtilhejdbiionhaaGreatDoor
open Go Go.Abs Go.Cw
def stopAV(z:Stop):AV:=.iface 87 (.agg [I z.status,I z.code,.slice [],S z.miss])
@[simp] theorem norm_stop(h:qab)(z:Stop):(stopAV z).norm h=stopAV z:=by simp[stopAV,AV.norm,qbi]
@[simp] theorem under_stop(n:Nat)(z:Stop):(stopAV z).under n=true:=by simp[stopAV,AV.under,qao]
def endV:EV→AEnd
 | .ok v=>.ret (.agg v.c)
 | .error z=>.panic (stopAV z)
def endU:Except Stop Unit→AEnd
 | .ok _=>.ret (.tuple [])
 | .error z=>.panic (stopAV z)
theorem qa7(code:Int)(h:qab):ACalls Tryz.prog 115 [I code] h fun r h'=>r=.panic (stopAV (ab code))∧h'=h:=by
 refine qaz Tryz.func115 Tryz.ntmps115 rfl (by kernel_rfl) rfl fun E hN hh hu hb hb' hua=>?_;simp-dsimp[go_sem,hN];exact⟨_,.refl _,h,by simp[go_sem],hwk.refl _,Nat.le_refl _,hu,rfl,rfl⟩
theorem qdx(n:Int):APure Tryz.prog 173 [I n] (.agg (vI n).c):=by
 refine qak Tryz.func173 Tryz.ntmps173 rfl (by kernel_rfl) rfl rfl fun E h hN hh hu hb=>?_;simp-dsimp[go_sem,hN];exact⟨rfl,rfl,rfl⟩
theorem qbt(b:Bool):APure Tryz.prog 216 [Bo b] (.agg (vB b).c):=by
 refine qak Tryz.func216 Tryz.ntmps216 rfl (by kernel_rfl) rfl rfl fun E h hN hh hu hb=>?_;simp-dsimp[go_sem,hN];refine cnd (fun h0=>?_) (fun h0=>?_)
 ·subst h0;simp-dsimp[go_sem,hN];exact⟨rfl,rfl,rfl⟩
 ·subst h0;simp-dsimp[go_sem,hN];exact⟨rfl,rfl,rfl⟩
theorem c_interp_must(b:Bool)(h:qab):ACalls Tryz.prog 117 [Bo b] h fun r h'=>r=(if b then .ret (.tuple [])else .panic (stopAV (ab 1009)))∧h'=h:=by
 refine qaz Tryz.func117 Tryz.ntmps117 rfl (by kernel_rfl) rfl fun E hN hh hu hb hb' hua=>?_;simp-dsimp[go_sem,hN];refine cnd ?_ ?_<;>intro h0<;>simp at h0<;>subst h0
 ·simp-dsimp[go_sem,hN];refine qaj (qa7 1009 h) ?_;rintro r h' ⟨rfl,rfl⟩;simp-dsimp[go_sem,hN];exact⟨_,.refl _,_,by simp,hwk.refl _,Nat.le_refl _,hu,rfl,rfl⟩
 ·simp-dsimp[go_sem,hN];exact⟨_,.refl _,_,by simp[go_sem],hwk.refl _,Nat.le_refl _,hu,rfl,rfl⟩
theorem c_interp_restart(k:qac)(h:qab):ACalls Tryz.prog 177 [S k] h fun r h'=>r=.panic (stopAV (rst k))∧h'=h:=by
 refine qaz Tryz.func177 Tryz.ntmps177 rfl (by kernel_rfl) rfl fun E hN hh hu hb hb' hua=>?_;simp-dsimp[go_sem,hN];exact⟨_,.refl _,h,by simp[go_sem],hwk.refl _,Nat.le_refl _,hu,rfl,rfl⟩
theorem c_interp_text(s:qac)(h:qab):ACalls Tryz.prog 217 [S s] h fun r h'=>r=endV (textS s)∧h'=h:=by
 refine qaz Tryz.func217 Tryz.ntmps217 rfl (by kernel_rfl) rfl fun E hN hh hu hb hb' hua=>?_;simp-dsimp[go_sem,hN];refine cnd ?_ ?_<;>intro h0<;>simp at h0
 ·simp-dsimp[go_sem,hN];refine qaj (qa7 1006 _) ?_;rintro r h' ⟨rfl,rfl⟩;simp-dsimp[go_sem,hN];rw[textS,if_pos (by omega)];exact⟨_,.refl _,_,by simp[go_sem],by simp[go_sem],by simp,by simp[hu,go_sem],rfl,rfl⟩
 ·simp-dsimp[go_sem,hN];rw[textS,if_neg (by omega)];exact⟨_,.refl _,h,by simp[go_sem],by simp[go_sem],by simp,by simp[hu,go_sem],rfl,rfl⟩
theorem qdb(r:Int×Int)(h:qab):ACalls Tryz.prog 214 [I r.1,I r.2] h fun x h'=>x=endV (qcs r)∧h'=h:=by
 refine qaz Tryz.func214 Tryz.ntmps214 rfl (by kernel_rfl) rfl fun E hN hh hu hb hb' hua=>?_;simp-dsimp[go_sem,hN];refine cnd ?_ ?_<;>intro h0<;>simp at h0
 ·simp-dsimp[go_sem,hN];refine qaa (qdx r.1) ?_;simp-dsimp[go_sem,hN];rw[qcs,if_pos h0];exact⟨_,.refl _,h,by simp[go_sem],by simp[go_sem],by simp,by simp[hu,go_sem],rfl,rfl⟩
 simp-dsimp[go_sem,hN];refine cnd ?_ ?_<;>intro h1<;>simp at h1
 ·simp-dsimp[go_sem,hN];refine qaj (qa7 1002 _) ?_;rintro r' h' ⟨rfl,rfl⟩;simp-dsimp[go_sem,hN];rw[qcs,if_neg h0,if_pos h1];exact⟨_,.refl _,h,by simp[go_sem],by simp[go_sem],by simp,by simp[hu,go_sem],rfl,rfl⟩
 ·simp-dsimp[go_sem,hN];refine qaj (qa7 1001 _) ?_;rintro r' h' ⟨rfl,rfl⟩;simp-dsimp[go_sem,hN];rw[qcs,if_neg h0,if_neg h1];exact⟨_,.refl _,h,by simp[go_sem],by simp[go_sem],by simp,by simp[hu,go_sem],rfl,rfl⟩
theorem qck(op a b:Int)(h:qab):ACalls Tryz.prog 220 [I op,I a,I b] h fun x h'=>x=endV (qel op a b)∧h'=h:=by
 refine qaz Tryz.func220 Tryz.ntmps220 rfl (by kernel_rfl) rfl fun E hN hh hu hb hb' hua=>?_;simp-dsimp[go_sem,hN];refine cnd ?_ ?_<;>intro h0<;>simp at h0
 ·simp-dsimp[go_sem,hN];refine qaa (c_num_Add a b) ?_;simp-dsimp[go_sem,hN];refine qaj (qdb (numAdd a b) _) ?_;rintro r' h' ⟨rfl,rfl⟩;rw[qel, if_pos h0];cases qcs (numAdd a b)<;>simp-dsimp[go_sem,hN,endV]<;>exact⟨_,.refl _,h,by simp[go_sem],by simp[go_sem],by simp,by simp[hu,go_sem],rfl,rfl⟩
 simp-dsimp[go_sem,hN];refine cnd ?_ ?_<;>intro h1<;>simp at h1
 ·simp-dsimp[go_sem,hN];refine qaa (c_num_Sub a b) ?_;simp-dsimp[go_sem,hN];refine qaj (qdb (qb4 a b) _) ?_;rintro r' h' ⟨rfl,rfl⟩;rw[qel,if_neg h0,if_pos h1];cases qcs (qb4 a b)<;>simp-dsimp[go_sem,hN,endV]<;>exact⟨_,.refl _,h,by simp[go_sem],by simp[go_sem],by simp,by simp[hu,go_sem],rfl,rfl⟩
 simp-dsimp[go_sem,hN];refine cnd ?_ ?_<;>intro h2<;>simp at h2
 ·simp-dsimp[go_sem,hN];refine qaa (c_num_Mul a b) ?_;simp-dsimp[go_sem,hN];refine qaj (qdb (numMul a b) _) ?_;rintro r' h' ⟨rfl,rfl⟩;rw[qel,if_neg h0,if_neg h1,if_pos h2];cases qcs (numMul a b)<;>simp-dsimp[go_sem,hN,endV]<;>exact⟨_,.refl _,h,by simp[go_sem],by simp[go_sem],by simp,by simp[hu,go_sem],rfl,rfl⟩
 simp-dsimp[go_sem,hN];refine cnd ?_ ?_<;>intro h3<;>simp at h3
 ·simp-dsimp[go_sem,hN];refine qaa (c_num_Div a b) ?_;simp-dsimp[go_sem,hN];refine qaj (qdb (numDiv a b) _) ?_;rintro r' h' ⟨rfl,rfl⟩;rw[qel,if_neg h0,if_neg h1,if_neg h2,if_pos h3];cases qcs (numDiv a b)<;>simp-dsimp[go_sem,hN,endV]<;>exact⟨_,.refl _,h,by simp[go_sem],by simp[go_sem],by simp,by simp[hu,go_sem],rfl,rfl⟩
 simp-dsimp[go_sem,hN];refine qaa (c_num_Mod a b) ?_;simp-dsimp[go_sem,hN];refine qaj (qdb (numMod a b) _) ?_;rintro r' h' ⟨rfl,rfl⟩;rw[qel,if_neg h0,if_neg h1,if_neg h2,if_neg h3];cases qcs (numMod a b)<;>simp-dsimp[go_sem,hN,endV]<;>exact⟨_,.refl _,h,by simp[go_sem],by simp[go_sem],by simp,by simp[hu,go_sem],rfl,rfl⟩
theorem qdu(b:Bool)(h:qab):ACalls Tryz.prog 117 [Bo b] h fun r h'=>((b=true∧r=.ret (.tuple []))∨(b=false∧r=.panic (stopAV (ab 1009))))∧h'=h :=
 (c_interp_must b h).mono (by
  rintro r h' ⟨rfl,rfl⟩;cases b
  ·exact⟨.inr ⟨rfl,rfl⟩,rfl⟩
  ·exact⟨.inl ⟨rfl,rfl⟩,rfl⟩)
theorem c_interp_compare(op:Int)(a b:V)(h:qab):ACalls Tryz.prog 221 [I op,.agg a.c,.agg b.c] h fun x h'=>x=endV (compS op a b)∧h'=h:=by
 refine qaz Tryz.func221 Tryz.ntmps221 rfl (by kernel_rfl) rfl fun E hN hh hu hb hb' hua=>?_;simp-dsimp[go_sem,hN]
 repeat refine⟨by grind,?_⟩
 refine qaj (qdu _ _) ?_;rintro r h' ⟨⟨hm,rfl⟩|⟨hm,rfl⟩,rfl⟩<;>simp at hm
 rotate_left
 ·simp-dsimp[go_sem,hN];rw[compS,if_neg (by grind)];exact⟨_,.refl _,h,by simp[go_sem],by simp[go_sem],by simp,by simp[hu,go_sem],rfl,rfl⟩
 rw[compS,if_pos (by grind)];simp-dsimp[go_sem,hN];refine qaa (c_value_Compare a b) ?_;simp-dsimp[go_sem,hN];refine cnd ?_ ?_<;>intro h0<;>simp at h0
 ·simp-dsimp[go_sem,hN];refine qaa (qbt (decide (cmpV a b=0))) ?_;simp-dsimp[go_sem,hN];rw[cmpBy, if_pos h0];exact⟨_,.refl _,h,by simp[go_sem],by simp[go_sem],by simp,by simp[hu,go_sem],rfl,rfl⟩
 simp-dsimp[go_sem,hN];refine cnd ?_ ?_<;>intro h1<;>simp at h1
 ·simp-dsimp[go_sem,hN];refine qaa (qbt (!decide (cmpV a b=0))) ?_;simp-dsimp[go_sem,hN];rw[cmpBy,if_neg h0,if_pos h1];exact⟨_,.refl _,h,by simp[go_sem],by simp[go_sem],by simp,by simp[hu,go_sem],rfl,rfl⟩
 simp-dsimp[go_sem,hN];refine cnd ?_ ?_<;>intro h2<;>simp at h2
 ·simp-dsimp[go_sem,hN];refine qaa (qbt (decide (cmpV a b<0))) ?_;simp-dsimp[go_sem,hN];rw[cmpBy,if_neg h0,if_neg h1,if_pos h2];exact⟨_,.refl _,h,by simp[go_sem],by simp[go_sem],by simp,by simp[hu,go_sem],rfl,rfl⟩
 simp-dsimp[go_sem,hN];refine cnd ?_ ?_<;>intro h3<;>simp at h3
 ·simp-dsimp[go_sem,hN];refine qaa (qbt (decide (cmpV a b≤0))) ?_;simp-dsimp[go_sem,hN];rw[cmpBy,if_neg h0,if_neg h1,if_neg h2,if_pos h3];exact⟨_,.refl _,h,by simp[go_sem],by simp[go_sem],by simp,by simp[hu,go_sem],rfl,rfl⟩
 simp-dsimp[go_sem,hN];refine cnd ?_ ?_<;>intro h4<;>simp at h4
 ·simp-dsimp[go_sem,hN];refine qaa (qbt (decide (0<cmpV a b))) ?_;simp-dsimp[go_sem,hN];rw[cmpBy,if_neg h0,if_neg h1,if_neg h2,if_neg h3,if_pos h4];exact⟨_,.refl _,h,by simp[go_sem],by simp[go_sem],by simp,by simp[hu,go_sem],rfl,rfl⟩
 simp-dsimp[go_sem,hN];refine qaa (qbt (decide (0≤cmpV a b))) ?_;simp-dsimp[go_sem,hN];rw[cmpBy,if_neg h0,if_neg h1,if_neg h2,if_neg h3,if_neg h4];exact⟨_,.refl _,h,by simp[go_sem],by simp[go_sem],by simp,by simp[hu,go_sem],rfl,rfl⟩
theorem c_interp_binary(op:Int)(a b:V)(h:qab)(hS:a.s.size+b.s.size≤68719476736):ACalls Tryz.prog 175 [I op,.agg a.c,.agg b.c] h fun x h'=>x=endV (binS op a b)∧h'=h:=by
 refine qaz Tryz.func175 Tryz.ntmps175 rfl (by kernel_rfl) rfl fun E hN hh hu hb hb' hua=>?_;simp-dsimp[go_sem,hN];refine cnd ?_ ?_<;>intro h0<;>simp at h0
 ·simp-dsimp[go_sem,hN,decide_eq_true h0]
  repeat refine⟨by grind,?_⟩
  refine qaj (qdu _ _) ?_;rintro r h' ⟨⟨hm,rfl⟩|⟨hm,rfl⟩,rfl⟩<;>simp at hm
  ·simp-dsimp[go_sem,hN];refine qaj (qck op a.n b.n _) ?_;rintro r' h' ⟨rfl,rfl⟩;rw[binS,if_pos (by omega),if_pos (by grind)];cases qel op a.n b.n<;>simp-dsimp[go_sem,hN,endV]<;>exact⟨_,.refl _,h,by simp[go_sem],by simp[go_sem],by simp,by simp[hu,go_sem],rfl,rfl⟩
  ·simp-dsimp[go_sem,hN];rw[binS,if_pos (by omega),if_neg (by grind)];exact⟨_,.refl _,h,by simp[go_sem],by simp[go_sem],by simp,by simp[hu,go_sem],rfl,rfl⟩
 simp-dsimp[go_sem,hN];refine cnd ?_ ?_<;>intro h1<;>simp at h1
 ·simp-dsimp[go_sem,hN,decide_eq_true h1]
  repeat refine⟨by grind,?_⟩
  refine qaj (qdu _ _) ?_;rintro r h' ⟨⟨hm,rfl⟩|⟨hm,rfl⟩,rfl⟩<;>simp at hm
  ·simp-dsimp[go_sem,hN];refine qaj (qck op a.n b.n _) ?_;rintro r' h' ⟨rfl,rfl⟩;rw[binS,if_pos (by omega),if_pos (by grind)];cases qel op a.n b.n<;>simp-dsimp[go_sem,hN,endV]<;>exact⟨_,.refl _,h,by simp[go_sem],by simp[go_sem],by simp,by simp[hu,go_sem],rfl,rfl⟩
  ·simp-dsimp[go_sem,hN];rw[binS,if_pos (by omega),if_neg (by grind)];exact⟨_,.refl _,h,by simp[go_sem],by simp[go_sem],by simp,by simp[hu,go_sem],rfl,rfl⟩
 simp-dsimp[go_sem,hN];refine cnd ?_ ?_<;>intro h2<;>simp at h2
 ·simp-dsimp[go_sem,hN,decide_eq_true h2]
  repeat refine⟨by grind,?_⟩
  refine qaj (qdu _ _) ?_;rintro r h' ⟨⟨hm,rfl⟩|⟨hm,rfl⟩,rfl⟩<;>simp at hm
  ·simp-dsimp[go_sem,hN];refine qaj (qck op a.n b.n _) ?_;rintro r' h' ⟨rfl,rfl⟩;rw[binS,if_pos (by omega),if_pos (by grind)];cases qel op a.n b.n<;>simp-dsimp[go_sem,hN,endV]<;>exact⟨_,.refl _,h,by simp[go_sem],by simp[go_sem],by simp,by simp[hu,go_sem],rfl,rfl⟩
  ·simp-dsimp[go_sem,hN];rw[binS,if_pos (by omega),if_neg (by grind)];exact⟨_,.refl _,h,by simp[go_sem],by simp[go_sem],by simp,by simp[hu,go_sem],rfl,rfl⟩
 simp-dsimp[go_sem,hN];refine cnd ?_ ?_<;>intro h3<;>simp at h3
 ·simp-dsimp[go_sem,hN,decide_eq_true h3]
  repeat refine⟨by grind,?_⟩
  refine qaj (qdu _ _) ?_;rintro r h' ⟨⟨hm,rfl⟩|⟨hm,rfl⟩,rfl⟩<;>simp at hm
  ·simp-dsimp[go_sem,hN];refine qaj (qck op a.n b.n _) ?_;rintro r' h' ⟨rfl,rfl⟩;rw[binS,if_pos (by omega),if_pos (by grind)];cases qel op a.n b.n<;>simp-dsimp[go_sem,hN,endV]<;>exact⟨_,.refl _,h,by simp[go_sem],by simp[go_sem],by simp,by simp[hu,go_sem],rfl,rfl⟩
  ·simp-dsimp[go_sem,hN];rw[binS,if_pos (by omega),if_neg (by grind)];exact⟨_,.refl _,h,by simp[go_sem],by simp[go_sem],by simp,by simp[hu,go_sem],rfl,rfl⟩
 simp-dsimp[go_sem,hN];refine cnd ?_ ?_<;>intro h4<;>simp at h4
 ·simp-dsimp[go_sem,hN]
  repeat refine⟨by grind,?_⟩
  refine qaj (qdu _ _) ?_;rintro r h' ⟨⟨hm,rfl⟩|⟨hm,rfl⟩,rfl⟩<;>simp at hm
  ·simp-dsimp[go_sem,hN];refine qaj (qck op a.n b.n _) ?_;rintro r' h' ⟨rfl,rfl⟩;rw[binS,if_pos (by omega),if_pos (by grind)];cases qel op a.n b.n<;>simp-dsimp[go_sem,hN,endV]<;>exact⟨_,.refl _,h,by simp[go_sem],by simp[go_sem],by simp,by simp[hu,go_sem],rfl,rfl⟩
  ·simp-dsimp[go_sem,hN];rw[binS,if_pos (by omega),if_neg (by grind)];exact⟨_,.refl _,h,by simp[go_sem],by simp[go_sem],by simp,by simp[hu,go_sem],rfl,rfl⟩
 simp-dsimp[go_sem,hN];refine cnd ?_ ?_<;>intro h5<;>simp at h5
 ·simp-dsimp[go_sem,hN]
  repeat refine⟨by grind,?_⟩
  refine qaj (qdu _ _) ?_;rintro r h' ⟨⟨hm,rfl⟩|⟨hm,rfl⟩,rfl⟩<;>simp at hm
  rotate_left
  ·simp-dsimp[go_sem,hN];rw[binS,if_neg (by omega),if_pos h5,if_neg (by grind)];exact⟨_,.refl _,h,by simp[go_sem],by simp[go_sem],by simp,by simp[hu,go_sem],rfl,rfl⟩
  rw[binS,if_neg (by omega),if_pos h5,if_pos (by grind)];simp-dsimp[go_sem,hN]
  repeat refine⟨by grind,?_⟩
  refine qaa (qbt (decide (a.n=1)&&decide (b.n=1))) ?_;simp-dsimp[go_sem,hN];exact⟨_,.refl _,h,by simp[go_sem],by simp[go_sem],by simp,by simp[hu,go_sem],rfl,rfl⟩
 simp-dsimp[go_sem,hN];refine cnd ?_ ?_<;>intro h6<;>simp at h6
 ·simp-dsimp[go_sem,hN]
  repeat refine⟨by grind,?_⟩
  refine qaj (qdu _ _) ?_;rintro r h' ⟨⟨hm,rfl⟩|⟨hm,rfl⟩,rfl⟩<;>simp at hm
  rotate_left
  ·simp-dsimp[go_sem,hN];rw[binS,if_neg (by omega),if_neg h5,if_pos h6,if_neg (by grind)];exact⟨_,.refl _,h,by simp[go_sem],by simp[go_sem],by simp,by simp[hu,go_sem],rfl,rfl⟩
  rw[binS,if_neg (by omega),if_neg h5,if_pos h6,if_pos (by grind)];simp-dsimp[go_sem,hN]
  repeat refine⟨by grind,?_⟩
  refine qaa (qbt (decide (a.n=1)||decide (b.n=1))) ?_;simp-dsimp[go_sem,hN];exact⟨_,.refl _,h,by simp[go_sem],by simp[go_sem],by simp,by simp[hu,go_sem],rfl,rfl⟩
 simp-dsimp[go_sem,hN];refine cnd ?_ ?_<;>intro h7<;>simp at h7
 ·simp-dsimp[go_sem,hN]
  repeat refine⟨by grind,?_⟩
  refine qaj (qdu _ _) ?_;rintro r h' ⟨⟨hm,rfl⟩|⟨hm,rfl⟩,rfl⟩<;>simp at hm
  rotate_left
  ·simp-dsimp[go_sem,hN];rw[binS,if_neg (by omega),if_neg h5,if_neg h6,if_pos h7,if_neg (by grind)];exact⟨_,.refl _,h,by simp[go_sem],by simp[go_sem],by simp,by simp[hu,go_sem],rfl,rfl⟩
  rw[binS,if_neg (by omega),if_neg h5,if_neg h6,if_pos h7,if_pos (by grind)];simp-dsimp[go_sem,hN];refine⟨hS,?_⟩;refine qaj (c_interp_text (a.s++b.s) _) ?_;rintro r' h' ⟨rfl,rfl⟩;cases textS (a.s++b.s)<;>simp-dsimp[go_sem,hN,endV]<;>exact⟨_,.refl _,h,by simp[go_sem],by simp[go_sem],by simp,by simp[hu,go_sem],rfl,rfl⟩
 simp-dsimp[go_sem,hN];refine qaj (c_interp_compare op a b _) ?_;rintro r' h' ⟨rfl,rfl⟩;rw[binS,if_neg (by omega),if_neg h5,if_neg h6,if_neg h7];cases compS op a b<;>simp-dsimp[go_sem,hN,endV]<;>exact⟨_,.refl _,h,by simp[go_sem],by simp[go_sem],by simp,by simp[hu,go_sem],rfl,rfl⟩
end Go.Proofs.YtilhejdbiionhaaGreatDoor

set_option maxRecDepth 4000
namespace Go.Proofs.YtilhejdbiionhaaGreatDoor
open Go Go.Abs Go.Cw Go.Shelf
def renF:Ren:=⟨fun
 | 129=>166| 173=>252| 246=>274| 283=>289| 284=>290| 285=>291| 286=>292
 | 317=>304| 318=>305| 319=>306| 320=>307| 337=>310| 338=>311|x=>x,
 fun| 0=>0| 2=>2| 3=>3| 4=>4| 5=>5| 9=>9| 20=>20| 37=>293| 46=>148| 51=>200| 53=>202| 171=>291| 173=>294| 212=>300| 213=>301| 232=>303| 233=>304|x=>x,
 fun| 17=>0| 18=>2| 19=>3|x=>x⟩
theorem laysF0:Lays.n173 Tryz.prog renF:=by
 constructor<;>first|exact fun _=>by kernel_rfl|kernel_rfl
theorem laysF:LaysM.n173 Tryz.prog renF:={ laysF0 with i0:=by kernel_rfl,i2:=by kernel_rfl,i3:=by kernel_rfl,i4:=by kernel_rfl,i5:=by kernel_rfl,i9:=by kernel_rfl,i20:=by kernel_rfl,i37:=by kernel_rfl,i46:=by kernel_rfl,i51:=by kernel_rfl,i53:=by kernel_rfl,i171:=by kernel_rfl,i173:=by kernel_rfl,i212:=by kernel_rfl,i232:=by kernel_rfl,i233:=by kernel_rfl,m17:=by kernel_rfl,m18:=by kernel_rfl,m19:=by kernel_rfl }
def tabV:Array Value:=(Lib.pow10Tab.map fun z=>Value.int .u64 z).toArray
def tabO(T:TypeId)(x:Nat×Nat):AObj:=.raw 0 (fun _=>.cells tabV T x) []
def qbc(n:Int):qac:=⟨(Lib.itoa n).toArray⟩
theorem hsim_grow{c:Ctx}{h:qab}{w:World}(hs:HSim c h w)(k:Nat)(os:Array Obj):HSim c h (Sort.grow (w.drewN k) os)∧(⟨0,c,h,w⟩:Ent).ok c h (Sort.grow (w.drewN k) os):=by
 have hw:∀b,b<w.heap.size→(Sort.grow (w.drewN k) os).heap[b]?=w.heap[b]?:=fun b hb=>by
  show(w.heap++os)[b]?=_;rw[Array.getElem?_append_left hb]
 refine⟨hs.ext hw (.refl c) (fun _ _=>rfl) (fun _ _ _ h=>.inl h) hs.dom,?_⟩;exact(Ent.ok.refl 0 hs).ext' hs hw (.refl c) (fun _=>rfl) rfl rfl rfl (by show _≤(w.heap++os).size;simp) (fun _ _ _ h=>.inl h)
theorem c_FormatInt(n:Int)(hn:i64 n)(h:qab)(g:Nat){T:TypeId}{x:Nat×Nat}(hg:h[g]?=some (tabO T x))(hsz:(qbc n).size≤68719476736) :
  ACalls Tryz.prog 252 [I n,I 10] h fun r h'=>r=.ret (S (qbc n))∧h'=h:=by
 refine⟨⟨_,laysF.f173,rfl,rfl⟩,fun c w vs hs ha=>?_⟩;obtain⟨hb,us,hv,_⟩:=hs.obj _ _ hg
 have htab:Lib.TabIs Tryz.prog w "internal/strconv.uint64pow10" .u64 Lib.pow10Tab:=by
  unfold Lib.TabIs World.var?;rw[laysF.m17];simp only[Option.bind_some];show(match w.heap[0]? with|some (.cells cs _ _)=>some cs|_=>none)=_;rw[hv];rfl
 have he:vs = #[.int .i64 n,.int .i64 10]:=relL_vals (l:=[.int .i64 n,.int .i64 10]) ha;rw[he];refine(Any.strconv_FormatInt_10 laysF n hn.1 hn.2 w htab).mono ?_;rintro e w' ⟨rfl,k,os,rfl⟩;obtain⟨g1,g2⟩:=hsim_grow hs k os;exact⟨_,h,c,⟨rfl,rfl⟩,.val _ (by simpa[strOk]using hsz),g1,g2⟩
theorem c_num_Format(n:Int)(hn:i64 n)(h:qab)(g:Nat){T:TypeId}{x:Nat×Nat}(hg:h[g]?=some (tabO T x)) :
  ACalls Tryz.prog 218 [I n] h fun r h'=>r=.ret (S (qbc n))∧h'=h:=by
 have hsz:(qbc n).size≤68719476736:=by
  have:=Lib.itoa_length_le n hn.1 hn.2;show(Lib.itoa n).length≤_;omega
 refine qaz Tryz.func218 Tryz.ntmps218 rfl (by kernel_rfl) rfl fun E hN hh hu hb hb' hua=>?_;simp-dsimp[go_sem,hN];refine qaj (c_FormatInt n hn h g hg hsz) ?_;rintro r h' ⟨rfl,rfl⟩;simp-dsimp[go_sem,hN];exact⟨_,.refl _,_,rfl,hwk.refl _,Nat.le_refl _,hu,rfl,rfl⟩
end Go.Proofs.YtilhejdbiionhaaGreatDoor

set_option maxRecDepth 4000
namespace Go.Proofs.YtilhejdbiionhaaGreatDoor
open Go Go.Abs Go.Cw Go.Shelf Go.Lib
def renI:Ren:=⟨fun| 17=>296| 22=>223| 29=>259| 30=>260| 36=>278|x=>x,fun| 0=>0| 3=>3| 4=>4| 9=>9| 24=>30|x=>x,fun x=>x⟩
theorem laysI:Lays2.n22 Tryz.prog renI:=by
 constructor<;>first|exact fun _=>by kernel_rfl|kernel_rfl
theorem c_cmpNaN_str(s:qac):APure Tryz.prog 179 [S s] (Bo false):=by
 refine qak Tryz.func179 Tryz.ntmps179 rfl (by kernel_rfl) rfl rfl fun E h hN hh hu hb=>?_;simp-dsimp[go_sem,hN]
theorem c_isNaN_str(s:qac):APure Tryz.prog 126 [S s] (Bo false):=by
 refine qak Tryz.func126 Tryz.ntmps126 rfl (by kernel_rfl) rfl rfl fun E h hN hh hu hb=>?_;simp-dsimp[go_sem,hN]
theorem c_less_str(a b:qac):APure Tryz.prog 125 [S a,S b] (Bo (sLt a b)):=by
 refine qak Tryz.func125 Tryz.ntmps125 rfl (by kernel_rfl) rfl rfl fun E h hN hh hu hb=>?_;simp-dsimp[go_sem,hN];refine qaa (c_cmpNaN_str a) ?_;simp-dsimp[go_sem,hN];refine tgcall_false ?_;simp-dsimp[go_sem,hN]
theorem c_BinarySearch(l:List qac)(k:qac)(hs:ascS l):APure Tryz.prog 78 [.slice (l.map qa1),S k] (.tuple [I (posS k l),Bo (decide (l[posS k l]?=some k))]):=by
 refine qak Tryz.func78 Tryz.ntmps78 rfl (by kernel_rfl) rfl rfl fun E h hN hh hu hb=>?_;simp[go_sem]at hb;have hp:=posS_le k l;simp-dsimp[go_sem,hN];refine awp_loopM (α:=Nat×Nat) (fun x=>x.1≤posS k l∧posS k l≤x.2∧x.2≤l.length) (fun x=>⟨[(0,.slice (l.map qa1)),(1,S k),(6,I l.length),(7,I x.1),(8,I x.2)],h⟩) (fun x=>x.2 - x.1) (0,l.length) ⟨by simp,hp,by simp⟩ wkA ?_;rintro⟨i,j⟩ ⟨h1,h2,h3⟩;simp only at h1 h2 h3;simp-dsimp[go_sem,hN];refine cnd ?_ ?_<;>intro hc<;>simp at hc
 ·have hm:IntKind.i64.wrap ((IntKind.u64.wrap (IntKind.i64.wrap ((i:Int)+j))).fdiv 2)=(((i+j) / 2:Nat):Int):=by
   have h0:=hb.1.1;have e0:IntKind.i64.wrap ((i:Int)+j)=(i:Int)+j:=wrapI (by omega) (by omega);rw[e0];have:IntKind.u64.wrap ((i:Int)+j)=(i:Int)+j:=by
    simp only[IntKind.wrap,IntKind.bits,IntKind.signed];simp;omega
   rw[this];have e1:((i:Int)+j).fdiv 2=(((i+j) / 2:Nat):Int):=by
    rw[Int.fdiv_eq_ediv_of_nonneg _ (by omega)];omega
   rw[e1,wrapI (by omega) (by omega)]
  have hlt:(i+j) / 2<l.length:=by omega
  have hi':=posS_lt (k:=k) hs ((i+j) / 2) hlt;generalize hq:(i+j) / 2=q at hm hlt hi';have hw:IntKind.i64.wrap ((q:Int)+1)=((q+1:Nat):Int):=by have h0:=hb.1.1;rw[wrapI (by omega) (by omega)];omega
  simp-dsimp[go_sem,hN,hm,hlt,qa1];refine qaa (c_less_str l[q] k) ?_;simp-dsimp[go_sem,hN];refine cnd (fun hc2=>?_) (fun hc2=>?_)
  ·simp-dsimp[go_sem,hN,hw];exact⟨q+1,j,⟨by have:=hi'.2 hc2;omega,h2,h3⟩,by omega,wkA⟩
  ·simp-dsimp[go_sem,hN];refine⟨i,q,⟨h1,?_,by omega⟩,by omega,wkA⟩;rcases Nat.lt_or_ge q (posS k l)with h5|h5
   ·have:=hi'.1 h5;rw[this]at hc2;cases hc2
   ·exact h5
 ·have hi:i=posS k l:=by omega
  subst hi;by_cases hlt:posS k l<l.length
  ·simp-dsimp[go_sem,hN,hlt,qa1]
   repeat refine⟨by grind,?_⟩
   refine qae (c_isNaN_str _) (by simp) ?_;simp-dsimp[go_sem,hN];refine tgcall_false ?_;simp-dsimp[go_sem,hN];rw[List.getElem?_eq_getElem hlt];simp
  ·have hd:decide (posS k l<l.length)=false:=by simpa using hlt
   have hnone:l[posS k l]?=none:=List.getElem?_eq_none (by omega);simp-dsimp[go_sem,hN,hd,hnone];refine tgcall_false ?_;simp-dsimp[go_sem,hN];refine tgcall_false ?_;simp-dsimp[go_sem,hN];rw[hnone];simp
theorem c_with(h:qab)(i:Nat)(l:List qac)(hi:h[i]?=some (.uarr 9 1 (l.map qa1)))(hlen:l.length+1≤68719476736)(key:qac)(ha:ascS l) :
  ACalls Tryz.prog 178 [.own i l.length,S key] h fun r h'=>r=.ret (.own i (withS l key).length)∧h'=h.set i (.uarr 9 1 ((withS l key).map qa1)):=by
 refine acalls_intro Tryz.func178 rfl (by kernel_rfl) (by simp[Tryz.ntmps178]) ?_;intro E hN hh hu;rw[Tryz.ntmps178]at hN;have hil:i<h.length:=(List.getElem?_eq_some_iff.1 hi).1;have hn:(l.map qa1).length=l.length:=by simp
 have hB:=c_BinarySearch l key ha;refine qbj (awp_ops ?_);simp[go_sem,hN];refine qbj (awp_opsB [_,_] ?_);simp[go_sem,hN,borStep,borV,hi,hn];refine⟨_,hB,by simp[flatB],?_⟩;simp[go_sem,hN];refine qbj (qbj (awp_ops ?_));simp[go_sem,hN];have hle:=posS_le key l;rcases hc:decide (l[posS key l]?=some key)with _|_
 ·have hw:withS l key=l.take (posS key l)++key::l.drop (posS key l):=by rw[withS,if_neg (by simpa using hc)]
  refine awp_cond (b:=false) (by simpa[go_sem]using hc) (fun h=>by cases h) (fun _=>?_);refine awp_skip ?_;simp;refine qbj (awp_opsT [_,_,_] _ ?_);simp[go_sem,hN];intro c a w s k;refine wp_insert laysI s k (T:=30) (x:=.tmp 17) (xa:=.tmp 15) (xb:=.tmp 16) (f:=.func 223) (d1:=18) rfl rfl rfl (by omega) (by simp[qee,hN]) rfl rfl (by simp[renI]) (by simp[renI]) (by simp[renI]) (by simp[go_sem]) (key:=key) (by simp[go_sem]) (i:=i) (n:=l.length) (by simp[go_sem]) (pos:=posS key l) (by simp[go_sem]) (by simp) (by simp) rfl hi hn hle hlen
   ⟨_,Tryz.func223,by kernel_rfl,by kernel_rfl⟩ fun c' a' w' s' k'=>?_
  refine qc9 _ [_,_,_,_,_] _ rfl ?_ c' a' w' s' k';simp[go_sem,hN];have hl':(withS l key).length=l.length+1:=by rw[hw];simp;omega
  refine awp_ret ⟨⟨trivial,trivial⟩,.own i (l.length+1),_,?_,?_,hwk.refl _,?_,?_,by rw[hl'],by rw[hw];simp[List.map_take,List.map_drop,qa1,renI]⟩
  ·simp[go_sem,hil]
  ·simp[AV.under,hil]
  ·simp
  ·rw[hUnder_iff]at hu⊢;intro o ho;simp only[List.length_set];rcases List.mem_or_eq_of_mem_set ho with ho|rfl
   ·exact hu o ho
   ·rfl
 ·have hw:withS l key=l:=by rw[withS,if_pos (by simpa using hc)]
  refine awp_cond (b:=true) (by simpa[go_sem]using hc) (fun _=>?_) (fun h=>by cases h);refine qbj (awp_ops ?_);simp[go_sem,hN];rw[hw,qdc hi];refine awp_ret ⟨⟨trivial,trivial⟩,.own i l.length,h,by simp[go_sem,hi],by simp[AV.under,hil],hwk.refl _,Nat.le_refl _,hu,rfl,rfl⟩
end Go.Proofs.YtilhejdbiionhaaGreatDoor

set_option maxRecDepth 4000
set_option maxHeartbeats 2000000
namespace Go.Proofs.YtilhejdbiionhaaGreatDoor
open Go Go.Abs Go.Cw
attribute [local go_sem] mC
variable {C:Cfg} {tT:TypeId} {tx:Nat×Nat} {g m v o io ir ip:Nat} {K:MQ→qab} {n0:Nat}
abbrev MHs(C:Cfg)(tT:TypeId)(tx:Nat×Nat)(g m v o io ir ip:Nat)(K:MQ→qab)(n0:Nat):Prop:=MH C (tabO tT tx) 54 9 g m v o io ir ip K n0
theorem c_machine_tick(Y:MHs C tT tx g m v o io ir ip K n0)(s:MS)(hst:s.steps≤100000) :
  ACalls Tryz.prog 73 [.ptr m 0] (K s.q) fun r h'=>r=endU (tickS s).1∧h'=K (tickS s).2.q:=by
 refine qaz Tryz.func73 Tryz.ntmps73 rfl (by kernel_rfl) rfl fun E hN hh hu hb hb' hua=>?_;have hw:IntKind.i64.wrap ((s.steps:Int)+1)=(s.steps:Int)+1:=wrapI (by omega) (by omega);simp-dsimp[go_sem,hN,Y.lm,hw,Y.smx];refine cnd ?_ ?_<;>intro h0<;>simp at h0
 ·simp-dsimp[go_sem,hN];refine qaj (qa7 1008 _) ?_;rintro r h' ⟨rfl,rfl⟩;simp-dsimp[go_sem,hN];rw[tickS,if_pos (by omega)];exact⟨_,.refl _,K (tickS s).2.q,by simp[go_sem],by first|exact hwk.refl _|exact hwk.app0 _|simp[hwk.refl],by simp[Y.len],Y.und' _,by first|rfl|simp,by first|rfl|simp[MS.q]⟩
 ·simp-dsimp[go_sem,hN];rw[tickS,if_neg (by omega)];exact⟨_,.refl _,K (tickS s).2.q,by simp[go_sem],by first|exact hwk.refl _|exact hwk.app0 _|simp[hwk.refl],by simp[Y.len],Y.und' _,by first|rfl|simp,by first|rfl|simp[MS.q]⟩
theorem c_machine_emit(Y:MHs C tT tx g m v o io ir ip K n0)(s:MS)(x:V)(hl:s.out.length≤100) :
  ACalls Tryz.prog 120 [.ptr m 0,.agg x.c] (K s.q) fun r h'=>r=endU (emitS x s).1∧h'=K (emitS x s).2.q:=by
 refine qaz Tryz.func120 Tryz.ntmps120 rfl (by kernel_rfl) rfl fun E hN hh hu hb hb' hua=>?_;simp-dsimp[go_sem,hN,Y.lm',Y.lio'];refine cnd ?_ ?_<;>intro h0<;>simp at h0
 ·simp-dsimp[go_sem,hN];refine qaj (qa7 1007 _) ?_;rintro r h' ⟨rfl,rfl⟩;simp-dsimp[go_sem,hN];rw[emitS,if_pos (by omega)];exact⟨_,.refl _,K s.q,by simp[go_sem],by first|exact hwk.refl _|exact hwk.app0 _|simp[hwk.refl],by simp[Y.len],Y.und' _,by first|rfl|simp,by first|rfl|simp[MS.q]⟩
 simp-dsimp[go_sem,hN];refine awp_drawP 10 9 [0] mixed (by kernel_rfl) ?_;simp-dsimp[go_sem,hN,Y.lm',Y.lio',Y.len,Y.loc,Y.sioA,Y.smx'];refine⟨by omega,?_⟩;rw[emitS,if_neg (by omega)];exact⟨_,.refl _,K ⟨s.vars,s.own,s.out++[x],s.reads,s.puts,s.out.length+1,s.reads.length,s.puts.length,s.steps⟩,by simp[go_sem],by first|exact hwk.refl _|exact hwk.app0 _|simp[hwk.refl],by simp[Y.len],Y.und' _,by first|rfl|simp,by first|rfl|simp[MS.q]⟩
theorem c_machine_fetch(Y:MHs C tT tx g m v o io ir ip K n0)(s:MS)(key:qac)(ha:ascS s.reads)(hl:s.reads.length+1≤68719476736) :
  ACalls Tryz.prog 219 [.ptr m 0,S key] (K s.q) fun r h'=>r=endV (qc0 C key s).1∧h'=K (qc0 C key s).2.q:=by
 refine qaz Tryz.func219 Tryz.ntmps219 rfl (by kernel_rfl) rfl fun E hN hh hu hb hb' hua=>?_;simp-dsimp[go_sem,hN];refine qaa (c_keys_Valid key) ?_;simp-dsimp[go_sem,hN];refine cnd ?_ ?_<;>intro h0<;>simp at h0
 ·simp-dsimp[go_sem,hN];refine qaj (qa7 1004 _) ?_;rintro r h' ⟨rfl,rfl⟩;simp-dsimp[go_sem,hN];rw[qc0,if_pos h0];exact⟨_,.refl _,K s.q,by simp[go_sem],by first|exact hwk.refl _|exact hwk.app0 _|simp[hwk.refl],by simp[Y.len],Y.und' _,by first|rfl|simp,by first|rfl|simp[MS.q]⟩
 rw[qc0,if_neg (by simp[h0])];rcases hk:qbg s.own key with _|w
 rotate_left
 ·simp-dsimp[go_sem,hN,Y.lm',Y.lo',hk];exact⟨_,.refl _,K s.q,by simp[go_sem],by first|exact hwk.refl _|exact hwk.app0 _|simp[hwk.refl],by simp[Y.len],Y.und' _,by first|rfl|simp,by first|rfl|simp[MS.q]⟩
 simp-dsimp[go_sem,hN,Y.lm',Y.lo',hk];refine qae (c_Contains_S C.rd key) (by simp) ?_;simp-dsimp[go_sem,hN]
 repeat refine⟨by grind,?_⟩
 refine cnd ?_ ?_<;>intro h1<;>simp at h1
 ·simp-dsimp[go_sem,hN];refine qaj (c_interp_restart key _) ?_;rintro r h' ⟨rfl,rfl⟩;simp-dsimp[go_sem,hN];simp only[h1.1,h1.2,and_self,if_true];exact⟨_,.refl _,K s.q,by simp[go_sem],by first|exact hwk.refl _|exact hwk.app0 _|simp[hwk.refl],by simp[Y.len],Y.und' _,by first|rfl|simp,by first|rfl|simp[MS.q]⟩
 have h1':¬(C.all=false∧qd1 C.rd key=false):=by rintro⟨h2,h3⟩;have:=h1 h2;rw[this]at h3;cases h3
 simp only[h1',if_false];simp-dsimp[go_sem,hN,Y.lm',Y.lir'];refine qaj (c_with _ _ s.reads (Y.lir' s.q _) (by omega) key ha) ?_;rintro r h' ⟨rfl,rfl⟩;simp-dsimp[go_sem,hN,Y.sir',Y.lm',Y.smx',Y.len,Y.loc,Y.sloc,Y.loc1,Y.sloc1];refine qaa (c_state_Get C.state key) ?_;simp-dsimp[go_sem,hN,Y.sir',Y.lm',Y.smx',Y.len,Y.loc,Y.sloc,Y.loc1,Y.sloc1];exact⟨_,.refl _,K (MS.q { s with reads:=withS s.reads key }),by simp[go_sem],by first|exact hwk.refl _|exact hwk.app0 _|simp[hwk.refl],by simp[Y.len],Y.und' _,by first|rfl|simp,by first|rfl|simp[MS.q]⟩
theorem c_machine_store(Y:MHs C tT tx g m v o io ir ip K n0)(s:MS)(key:qac)(x:V)(ha:ascS s.puts)(hl:s.puts.length+1≤68719476736) :
  ACalls Tryz.prog 118 [.ptr m 0,S key,.agg x.c] (K s.q) fun r h'=>r=endU (qcq C key x s).1∧h'=K (qcq C key x s).2.q:=by
 refine qaz Tryz.func118 Tryz.ntmps118 rfl (by kernel_rfl) rfl fun E hN hh hu hb hb' hua=>?_;simp-dsimp[go_sem,hN];refine qaa (c_keys_Valid key) ?_;simp-dsimp[go_sem,hN];refine cnd ?_ ?_<;>intro h0<;>simp at h0
 ·simp-dsimp[go_sem,hN];refine qaj (qa7 1004 _) ?_;rintro r h' ⟨rfl,rfl⟩;simp-dsimp[go_sem,hN];rw[qcq,if_pos h0];exact⟨_,.refl _,K s.q,by simp[go_sem],by first|exact hwk.refl _|exact hwk.app0 _|simp[hwk.refl],by simp[Y.len],Y.und' _,by first|rfl|simp,by first|rfl|simp[MS.q]⟩
 rw[qcq,if_neg (by simp[h0])];simp-dsimp[go_sem,hN,Y.lm'];refine qae (c_Contains_S C.wr key) (by simp) ?_;simp-dsimp[go_sem,hN]
 repeat refine⟨by grind,?_⟩
 refine cnd ?_ ?_<;>intro h1<;>simp at h1
 ·simp-dsimp[go_sem,hN];refine qaj (c_interp_restart key _) ?_;rintro r h' ⟨rfl,rfl⟩;simp-dsimp[go_sem,hN];simp only[h1.1,h1.2,and_self,if_true];exact⟨_,.refl _,K s.q,by simp[go_sem],by first|exact hwk.refl _|exact hwk.app0 _|simp[hwk.refl],by simp[Y.len],Y.und' _,by first|rfl|simp,by first|rfl|simp[MS.q]⟩
 have h1':¬(C.all=false∧qd1 C.wr key=false):=by rintro⟨h2,h3⟩;have:=h1 h2;rw[this]at h3;cases h3
 simp only[h1',if_false];simp-dsimp[go_sem,hN,Y.lm',Y.lip'];refine qaj (c_with _ _ s.puts (Y.lip' s.q _) (by omega) key ha) ?_;rintro r h' ⟨rfl,rfl⟩;simp-dsimp[go_sem,hN,Y.sip',Y.lm',Y.smx'];refine qai 6 mixed (by kernel_rfl) (by kernel_rfl) ?_;simp-dsimp[go_sem,hN,Y.lm',Y.lo',Y.len,Y.loc,Y.so'];exact⟨_,.refl _,K (MS.q { s with puts:=withS s.puts key,own:=qbr s.own key x }),by simp[go_sem],by first|exact hwk.refl _|exact hwk.app0 _|simp[hwk.refl],by simp[Y.len],Y.und' _,by first|rfl|simp,by first|rfl|simp[MS.q]⟩
end Go.Proofs.YtilhejdbiionhaaGreatDoor
