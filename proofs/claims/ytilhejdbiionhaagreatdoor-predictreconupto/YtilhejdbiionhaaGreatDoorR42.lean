/- Part 42 of a proof: W40, W44, W45, W32, W33, W34 -/
import Derived.Shelf.Small.Strs
import Derived.Shelf.Strconv.Itoa4
import Derived.Lib.ItoaLen
import Derived.Test.YtilhejdbiionhaaGreatDoorR13
import Derived.Test.YtilhejdbiionhaaGreatDoorR14
import Derived.Test.YtilhejdbiionhaaGreatDoorR16
import Derived.Test.YtilhejdbiionhaaGreatDoorR17
import Derived.Test.YtilhejdbiionhaaGreatDoorR20
import Derived.Test.YtilhejdbiionhaaGreatDoorR21
import Derived.Test.YtilhejdbiionhaaGreatDoorR22
import Derived.Test.YtilhejdbiionhaaGreatDoorR23
import Derived.Test.YtilhejdbiionhaaGreatDoorR24
import Derived.Test.YtilhejdbiionhaaGreatDoorR25
import Derived.Test.YtilhejdbiionhaaGreatDoorR27
import Derived.Test.YtilhejdbiionhaaGreatDoorR29
import Derived.Test.YtilhejdbiionhaaGreatDoorR30
import Derived.Test.YtilhejdbiionhaaGreatDoorR31
import Derived.Test.YtilhejdbiionhaaGreatDoorR32
import Derived.Test.YtilhejdbiionhaaGreatDoorR35
import Derived.Test.YtilhejdbiionhaaGreatDoorR39
set_option linter.all false

set_option maxRecDepth 4000
set_option maxHeartbeats 1000000
namespace Go.Proofs.YtilhejdbiionhaaGreatDoor
open Go Go.Abs Go.Cw
def kwL:List qac:=[⟨#[112,114,111,99]⟩,⟨#[108,101,116]⟩,⟨#[112,117,116]⟩,⟨#[100,101,108,101,116,101]⟩,⟨#[105,102]⟩,⟨#[101,108,115,101]⟩,⟨#[102,111,114]⟩,⟨#[116,111]⟩,⟨#[109,97,120]⟩,⟨#[101,109,105,116]⟩,⟨#[97,98,111,114,116]⟩,⟨#[110,111,116]⟩,⟨#[97,110,100]⟩,⟨#[111,114]⟩,⟨#[105,110,116]⟩,⟨#[115,116,114]⟩,⟨#[98,111,111,108]⟩,⟨#[116,101,120,116]⟩,⟨#[108,101,110]⟩,⟨#[103,101,116,105,110,116]⟩,⟨#[103,101,116,115,116,114]⟩,⟨#[104,97,115]⟩,⟨#[110,111,119]⟩,⟨#[114,97,110,100,111,109]⟩,⟨#[110,111,100,101]⟩]
theorem kw_has(s:qac):qd1 kwL s=kw s:=by
 have e:∀a:qac,decide (a=s)=decide (s=a):=fun a=>decide_eq_decide.2 ⟨Eq.symm,Eq.symm⟩;simp only[qd1,kwL,anyL,kw,Bool.or_false,e,Bool.or_assoc]
theorem c_ref07_has(l:List qac)(k:qac):APure Tryz.prog 225 [.slice (l.map qa1),S k] (Bo (qd1 l k)):=by
 refine qak Tryz.func225 Tryz.ntmps225 rfl (by kernel_rfl) rfl rfl fun E h hN hh hu hb=>?_;simp[go_sem]at hb;simp-dsimp[go_sem,hN];refine qam l.length (fun n=>qd1 (l.drop n) k=qd1 l k) (fun n=>⟨[(0,.slice (l.map qa1)),(1,S k),(5,I n)],h⟩) (by simp) wkA ?_;intro n hn hI;have hw:=qa2 hn hb.1.1;simp-dsimp[go_sem,hN];refine cnd ?_ ?_<;>intro hc<;>simp at hc
 ·rw[qaf hc,qd1,anyL]at hI;simp-dsimp[go_sem,hN,hc];refine cnd ?_ ?_<;>intro hg<;>simp at hg
  ·simp-dsimp[go_sem,hN];simp[←hI,hg]
  ·simp-dsimp[go_sem,hN,hw];exact⟨hc,by simpa[hg,qd1]using hI,wkA⟩
 ·rw[List.drop_eq_nil_of_le (by omega),qd1,anyL]at hI;simp-dsimp[go_sem,hN,←hI]
theorem c_ref07_Keywords:APure Tryz.prog 226 [] (.slice (kwL.map qa1)):=by
 refine qak Tryz.func226 Tryz.ntmps226 rfl (by kernel_rfl) rfl rfl fun E h hN hh hu hb=>?_;simp-dsimp[go_sem,hN];simp[kwL,qa1]
theorem c_ref07_IsKeyword(s:qac):APure Tryz.prog 184 [S s] (Bo (kw s)):=by
 refine qak Tryz.func184 Tryz.ntmps184 rfl (by kernel_rfl) rfl rfl fun E h hN hh hu hb=>?_;simp-dsimp[go_sem,hN];refine qaa c_ref07_Keywords ?_;simp-dsimp[go_sem,hN];refine qaa (c_ref07_has kwL s) ?_;simp-dsimp[go_sem,hN,kw_has]
theorem c_ref07_letter(c:UInt8):APure Tryz.prog 182 [U8 c.toNat] (Bo (ltr c.toNat)):=by
 refine qak Tryz.func182 Tryz.ntmps182 rfl (by kernel_rfl) rfl rfl fun E h hN hh hu hb=>?_;simp-dsimp[go_sem,hN,ltr]
theorem c_ref07_digit(c:UInt8):APure Tryz.prog 261 [U8 c.toNat] (Bo (decide ((48:Int)≤c.toNat)&&decide ((c.toNat:Int)≤57))):=by
 refine qak Tryz.func261 Tryz.ntmps261 rfl (by kernel_rfl) rfl rfl fun E h hN hh hu hb=>?_;simp-dsimp[go_sem,hN]
theorem c_ref07_part(c:UInt8):APure Tryz.prog 224 [U8 c.toNat] (Bo (wordI c.toNat)):=by
 refine qak Tryz.func224 Tryz.ntmps224 rfl (by kernel_rfl) rfl rfl fun E h hN hh hu hb=>?_;simp-dsimp[go_sem,hN];refine qaa (c_ref07_letter c) ?_;simp-dsimp[go_sem,hN];refine qae (c_ref07_digit c) (by simp) ?_;simp-dsimp[go_sem,hN,wordI];grind
theorem c_ref07_word(s:qac):APure Tryz.prog 183 [S s,I 0] (I (wordLen (bl s))):=by
 refine qak Tryz.func183 Tryz.ntmps183 rfl (by kernel_rfl) rfl rfl fun E h hN hh hu hb=>?_;simp[go_sem]at hb;simp-dsimp[go_sem,hN];refine qam s.size (fun n=>n+wordLen ((bl s).drop n)=wordLen (bl s)) (fun n=>⟨[(0,S s),(1,I n)],h⟩) (by simp) wkA ?_;intro n hn hI;have hw:=qa2 hn hb;simp-dsimp[go_sem,hN];by_cases hc:n<s.size
 ·rw[bdrop hc,wordLen]at hI;simp-dsimp[go_sem,hN,hc];refine qae (c_ref07_part (bAt s n)) (by simp[hc]) ?_;simp-dsimp[go_sem,hN,hc];refine cnd ?_ ?_<;>intro hg<;>try simp at hg
  ·simp-dsimp[go_sem,hN,hw];exact⟨hc,by rw[if_pos hg]at hI;omega,wkA⟩
  ·simp-dsimp[go_sem,hN];rw[if_neg (by simp[hg])]at hI;omega
 ·rw[bend hc,wordLen]at hI;simp-dsimp[go_sem,hN,hc];refine tgcall_if .top (by simp) (by simp) ?_;simp-dsimp[go_sem,hN];omega
theorem c_ref07_IsName(s:qac):APure Tryz.prog 134 [S s] (Bo (nameOk s)):=by
 refine qak Tryz.func134 Tryz.ntmps134 rfl (by kernel_rfl) rfl rfl fun E h hN hh hu hb=>?_;rcases sz_em s with rfl|h1
 ·simp-dsimp[go_sem,hN,nameOk];refine tgcall_if .top (by simp) (by simp) ?_;simp-dsimp[go_sem,hN];refine tgcall_if .top (by simp) (by simp) ?_;simp-dsimp[go_sem,hN];refine tgcall_if .top (by simp) (by simp) ?_;simp-dsimp[go_sem,hN,nameOk]
 ·have h1':0<s.size:=by omega
  have he:¬s=em:=by rintro rfl;simp at h1
  simp-dsimp[go_sem,hN,h1',he];refine qae (c_ref07_letter _) (by simp) ?_;simp-dsimp[go_sem,hN];refine qae (c_ref07_word s) (by simp) ?_;simp-dsimp[go_sem,hN];refine qae (c_ref07_IsKeyword s) (by simp) ?_;simp-dsimp[go_sem,hN,nameOk,he,h1]
theorem c_ref08_Arity(op:Int):APure Tryz.prog 263 [I op] (I (qb0 op)):=by
 refine qak Tryz.func263 Tryz.ntmps263 rfl (by kernel_rfl) rfl rfl fun E h hN hh hu hb=>?_;by_cases h1:op=1
 ·subst h1;simp-dsimp[go_sem,hN,qb0]
 by_cases h2:op=2
 ·subst h2;simp-dsimp[go_sem,hN,qb0]
 by_cases h3:op=3
 ·subst h3;simp-dsimp[go_sem,hN,qb0]
 by_cases h25:op=25
 ·subst h25;simp-dsimp[go_sem,hN,qb0]
 by_cases h26:op=26
 ·subst h26;simp-dsimp[go_sem,hN,qb0]
 by_cases h27:op=27
 ·subst h27;simp-dsimp[go_sem,hN,qb0]
 by_cases h9:op=9
 ·subst h9;simp-dsimp[go_sem,hN,qb0]
 by_cases h18:op=18
 ·subst h18;simp-dsimp[go_sem,hN,qb0]
 by_cases h20:op=20
 ·subst h20;simp-dsimp[go_sem,hN,qb0]
 by_cases h21:op=21
 ·subst h21;simp-dsimp[go_sem,hN,qb0]
 by_cases h22:op=22
 ·subst h22;simp-dsimp[go_sem,hN,qb0]
 by_cases h23:op=23
 ·subst h23;simp-dsimp[go_sem,hN,qb0]
 by_cases h24:op=24
 ·subst h24;simp-dsimp[go_sem,hN,qb0]
 simp-dsimp[go_sem,hN,h1,h2,h3,h25,h26,h27,h9,h18,h20,h21,h22,h23,h24];refine cnd ?_ ?_<;>intro hg<;>simp at hg
 ·simp-dsimp[go_sem,hN];unfold qb0;rw[if_neg (by omega),if_neg (by omega),if_neg (by omega)]
 ·simp-dsimp[go_sem,hN];unfold qb0;rw[if_pos (by omega)]
theorem qdt(e:Ex):APure Tryz.prog 187 [.agg e.x] (Bo (absE e)):=by
 refine qak Tryz.func187 Tryz.ntmps187 rfl (by kernel_rfl) rfl rfl fun E h hN hh hu hb=>?_;simp-dsimp[go_sem,hN,absE]
theorem c_ref08_Plain(s:qac):APure Tryz.prog 85 [S s] (Bo (qa3 s)):=by
 refine qak Tryz.func85 Tryz.ntmps85 rfl (by kernel_rfl) rfl rfl fun E h hN hh hu hb=>?_;simp[go_sem]at hb;simp-dsimp[go_sem,hN];refine cnd ?_ ?_<;>intro h0<;>simp at h0
 ·simp-dsimp[go_sem,hN];simp[qa3,Int.not_le.2 h0]
 simp-dsimp[go_sem,hN];refine qam s.size (fun n=>allL okB ((bl s).drop n)=allL okB (bl s)) (fun n=>⟨[(0,S s),(3,I n)],h⟩) (by simp) wkA ?_;intro n hn hI;have hw:=qa2 hn hb;simp-dsimp[go_sem,hN];refine cnd ?_ ?_<;>intro hc<;>simp at hc
 ·rw[bdrop hc,allL]at hI;simp-dsimp[go_sem,hN,hc];refine cnd (fun hg=>?_) (fun hg=>?_)
  ·simp-dsimp[go_sem,hN];simp[qa3,←hI,okB,hg]
  ·simp-dsimp[go_sem,hN,hw];exact⟨hc,by simpa[okB,hg]using hI,wkA⟩
 ·rw[bend (by omega),allL]at hI;simp-dsimp[go_sem,hN,qa3,←hI,h0]
theorem c_ref08_node(op n:Int)(s:qac)(args:List Ex)(d:Nat):APure Tryz.prog 262 [.agg [I op,I n,S s,.slice (args.map Ex.c)],I d] (I (qcb op n s args.length d)):=by
 refine qak Tryz.func262 Tryz.ntmps262 rfl (by kernel_rfl) rfl rfl fun E h hN hh hu hb=>?_;simp-dsimp[go_sem,hN];refine qaa (c_ref08_Arity _) ?_;simp-dsimp[go_sem,hN]
 repeat refine⟨by grind,?_⟩
 refine cnd (fun h0=>?_) (fun h0=>?_)
 ·simp-dsimp[go_sem,hN];simp at h0;rw[qcb,if_pos (by grind)]
 have h0':¬(qb0 op<0∨(op≠1∧n≠0)∨(op≠2∧op≠3∧s≠em)):=by simp at h0;grind
 simp-dsimp[go_sem,hN];refine qae (c_ref07_IsName s) (by simp) ?_;simp-dsimp[go_sem,hN];refine cnd (fun h1=>?_) (fun h1=>?_)
 ·simp-dsimp[go_sem,hN];simp at h1;rw[qcb,if_neg h0',if_pos (by grind)]
 have h1':¬(op=3∧nameOk s=false):=by simp at h1;grind
 simp-dsimp[go_sem,hN];refine qai 21 mixed (by kernel_rfl) (by kernel_rfl) ?_;simp-dsimp[go_sem,hN];refine qax (c_ref08_Plain s) (by simp) ?_;simp-dsimp[go_sem,hN];refine⟨by grind,?_⟩;refine qax (c_ref08_Arity op) (by simp) ?_;simp-dsimp[go_sem,hN]
 repeat refine⟨by grind,?_⟩
 refine cnd (fun h2=>?_) (fun h2=>?_)
 ·simp-dsimp[go_sem,hN];simp at h2;rw[qcb,if_neg h0',if_neg h1',if_pos (by grind)]
 have h2':¬((op=1∧n<0)∨(op=2∧qa3 s=false)∨(args.length:Int)≠qb0 op):=by simp at h2;grind
 simp-dsimp[go_sem,hN];refine cnd ?_ ?_<;>intro h3<;>simp at h3
 ·simp-dsimp[go_sem,hN];rw[qcb,if_neg h0',if_neg h1',if_neg h2',if_pos (by omega)]
 ·simp-dsimp[go_sem,hN];rw[qcb,if_neg h0',if_neg h1',if_neg h2',if_neg (by omega)]
theorem c_ref08_valid(e:Ex)(d:Nat):APure Tryz.prog 228 [.agg e.x,I d] (I (chkE e d)):=by
 refine qak Tryz.func228 Tryz.ntmps228 rfl (by kernel_rfl) rfl rfl fun E h hN hh hu hb=>?_;simp[go_sem]at hb;simp-dsimp[go_sem,hN];refine qaa (c_ref08_node _ _ _ _ _) ?_;simp-dsimp[go_sem,hN];refine cnd ?_ ?_<;>intro h0<;>simp at h0
 ·simp-dsimp[go_sem,hN];rw[chkE_eq,if_neg h0]
 have hd:d≤12:=by
  unfold qcb at h0;grind
 simp-dsimp[go_sem,hN];refine qam e.args.length (fun n=>chkL (e.args.drop n) (d+1)=chkL e.args (d+1)) (fun n=>⟨[(1,I d),(2,.ptr h.length 0),(6,I n)],h++[.cells e.x]⟩) (by simp) wkA ?_;intro n hn hI;have hw:=qa2 hn hb.2.1;have hw2:IntKind.i64.wrap ((d:Int)+1)=((d+1:Nat):Int):=by rw[wrapI (by omega) (by omega)];rfl
 simp-dsimp[go_sem,hN];refine cnd ?_ ?_<;>intro hc<;>simp at hc
 ·rw[qaf hc,chkL]at hI;simp-dsimp[go_sem,hN,hc,hw2];have hlt:SizeOf.sizeOf e.args[n]<SizeOf.sizeOf e:=Ex.arg_lt (List.getElem_mem hc);refine qaa (c_ref08_valid e.args[n] (d+1)) ?_;simp-dsimp[go_sem,hN];refine cnd ?_ ?_<;>intro hg<;>simp at hg
  ·simp-dsimp[go_sem,hN];rw[chkE_eq e,if_pos h0,←hI,if_neg hg]
  ·simp-dsimp[go_sem,hN,hw];exact⟨hc,by simpa[hg]using hI,wkA⟩
 ·rw[List.drop_eq_nil_of_le (by omega),chkL]at hI;simp-dsimp[go_sem,hN];rw[chkE_eq e,if_pos h0,←hI]
termination_by SizeOf.sizeOf e
theorem qdm(e:Ex):APure Tryz.prog 188 [.agg e.x] (I (chkE e 1)):=by
 refine qak Tryz.func188 Tryz.ntmps188 rfl (by kernel_rfl) rfl rfl fun E h hN hh hu hb=>?_;simp-dsimp[go_sem,hN];refine qaa (c_ref08_valid e 1) ?_;simp-dsimp[go_sem,hN]
def usesR(op:Int):Uses :=
 if op=1∨op=2 then⟨true,true,false,false,false,false⟩
 else if op=3 then⟨false,true,true,false,false,false⟩
 else if op=4∨op=7 then⟨false,true,false,false,false,false⟩
 else if op=5 then⟨false,true,false,false,true,true⟩
 else if op=6 then⟨true,true,true,true,true,false⟩
 else⟨false,false,false,true,false,false⟩
theorem c_ref08_uses(op:Int):APure Tryz.prog 186 [I op] (.tuple [Bo (usesR op).name,Bo (usesR op).max,Bo (usesR op).a,Bo (usesR op).b,Bo (usesR op).body,Bo (usesR op).other]):=by
 refine qak Tryz.func186 Tryz.ntmps186 rfl (by kernel_rfl) rfl rfl fun E h hN hh hu hb=>?_;by_cases h1:op=1
 ·subst h1;simp-dsimp[go_sem,hN,usesR]
 by_cases h2:op=2
 ·subst h2;simp-dsimp[go_sem,hN,usesR]
 by_cases h3:op=3
 ·subst h3;simp-dsimp[go_sem,hN,usesR]
 by_cases h4:op=4
 ·subst h4;simp-dsimp[go_sem,hN,usesR]
 by_cases h7:op=7
 ·subst h7;simp-dsimp[go_sem,hN,usesR]
 by_cases h5:op=5
 ·subst h5;simp-dsimp[go_sem,hN,usesR]
 by_cases h6:op=6
 ·subst h6;simp-dsimp[go_sem,hN,usesR]
 simp-dsimp[go_sem,hN,usesR,h1,h2,h3,h4,h5,h6,h7]
end Go.Proofs.YtilhejdbiionhaaGreatDoor

set_option maxRecDepth 4000
set_option maxHeartbeats 2000000
namespace Go.Proofs.YtilhejdbiionhaaGreatDoor
open Go Go.Abs Go.Cw
theorem c_ref01_Add(a b:Int)(ha:i64 a)(hb2:i64 b):APure Tryz.prog 299 [I a,I b] (.tuple [I (numAdd a b).1,I (numAdd a b).2]):=by
 have hr:=add_ref ha hb2;refine qak Tryz.func299 Tryz.ntmps299 rfl (by kernel_rfl) rfl rfl fun E h hN hh hu hb=>?_;simp-dsimp[go_sem,hN]
 repeat refine⟨by grind,?_⟩
 refine cnd (fun h0=>?_) (fun h0=>?_)
 ·have h1:(0<b∧W64 (a+b)<a)∨(b<0∧a<W64 (a+b)):=hr.1 (by simp at h0;grind);simp-dsimp[go_sem,hN,numAdd,h1]
 ·have h1:¬((0<b∧W64 (a+b)<a)∨(b<0∧a<W64 (a+b))):=fun g=>by have:=hr.2 g;simp at h0;grind
  simp-dsimp[go_sem,hN,numAdd,h1]
theorem c_ref01_Sub(a b:Int)(ha:i64 a)(hb2:i64 b):APure Tryz.prog 248 [I a,I b] (.tuple [I (qb4 a b).1,I (qb4 a b).2]):=by
 have hr:=sub_ref ha hb2;refine qak Tryz.func248 Tryz.ntmps248 rfl (by kernel_rfl) rfl rfl fun E h hN hh hu hb=>?_;simp-dsimp[go_sem,hN]
 repeat refine⟨by grind,?_⟩
 refine cnd (fun h0=>?_) (fun h0=>?_)
 ·have h1:(0<b∧a<W64 (a - b))∨(b<0∧W64 (a - b)<a):=hr.1 (by simp at h0;grind);simp-dsimp[go_sem,hN,qb4,h1]
 ·have h1:¬((0<b∧a<W64 (a - b))∨(b<0∧W64 (a - b)<a)):=fun g=>by have:=hr.2 g;simp at h0;grind
  simp-dsimp[go_sem,hN,qb4,h1]
theorem c_ref01_Neg(a:Int)(ha:i64 a):APure Tryz.prog 286 [I a] (.tuple [I (qdn a).1,I (qdn a).2]):=by
 rw[←neg_ref ha];refine qak Tryz.func286 Tryz.ntmps286 rfl (by kernel_rfl) rfl rfl fun E h hN hh hu hb=>?_;simp-dsimp[go_sem,hN];refine qaa (c_ref01_Sub 0 a ⟨by decide,by decide⟩ ha) ?_;simp-dsimp[go_sem,hN]
theorem c_ref01_size(a:Int)(ha:i64 a):APure Tryz.prog 303 [I a] (.val (.int .u64 (absI a))):=by
 refine qak Tryz.func303 Tryz.ntmps303 rfl (by kernel_rfl) rfl rfl fun E h hN hh hu hb=>?_;simp-dsimp[go_sem,hN];refine cnd ?_ ?_<;>intro h0<;>simp at h0
 ·simp-dsimp[go_sem,hN];have hz:=U64_abs ha;rw[Int.zero_sub]at hz;rw[hz,if_pos h0];simp[absI,h0]
 ·simp-dsimp[go_sem,hN];rw[U64_in h0 (by have:=ha.2;omega)];simp[absI,Int.not_lt.2 h0]
theorem tdiv_rng{L m:Int}(hL:0≤L)(hm:0<m):0≤L.tdiv m∧L.tdiv m≤L:=by
 rw[Int.tdiv_eq_ediv_of_nonneg hL];exact⟨Int.ediv_nonneg hL (Int.le_of_lt hm),Int.ediv_le_self m hL⟩
theorem c_ref01_Mul(a b:Int)(ha:i64 a)(hb2:i64 b):APure Tryz.prog 300 [I a,I b] (.tuple [I (numMul a b).1,I (numMul a b).2]):=by
 refine qak Tryz.func300 Tryz.ntmps300 rfl (by kernel_rfl) rfl rfl fun E h hN hh hu hb=>?_;simp-dsimp[go_sem,hN]
 repeat refine⟨by grind,?_⟩
 refine cnd (fun h0=>?_) (fun h0=>?_)
 ·have h1:a=0∨b=0:=by simpa using h0
  simp-dsimp[go_sem,hN,numMul,h1]
 have h1:a≠0∧b≠0:=by simpa using h0
 obtain⟨s1,s2⟩:=numMul_spec ha hb2 h1.1 h1.2;have hbp:absI b≠0:=by unfold absI;split<;>omega
 simp-dsimp[go_sem,hN];have hbp':0<absI b:=by unfold absI;split<;>omega
 refine cnd (fun hs=>?_) (fun hs=>?_)
 ·have hs':decide (a<0)≠decide (b<0):=by simpa using hs
  have hm:=mul_ref ha hb2 h1.1 h1.2 9223372036854775808 (by rw[if_pos hs']);have ht:=tdiv_rng (L:=9223372036854775808) (by decide) hbp';simp-dsimp[go_sem,hN];refine qaa (c_ref01_size a ha) ?_;simp-dsimp[go_sem,hN];refine qaa (c_ref01_size b hb2) ?_;simp-dsimp[go_sem,hN,hbp];rw[U64_in ht.1 (by omega)];refine cnd ?_ ?_<;>intro h2<;>simp at h2
  ·have e:=s2 (hm.1 h2);simp-dsimp[go_sem,hN,e]
  ·have hi:i64 (a * b):=by
    by_cases hi:i64 (a * b)
    ·exact hi
    ·exact absurd (hm.2 hi) (by omega)
   have e:=s1 hi;have hwr:IntKind.i64.wrap (a * b)=a * b:=wrapI hi.1 (by have:=hi.2;omega);simp-dsimp[go_sem,hN,e,hwr]
 ·have hs':¬(decide (a<0)≠decide (b<0)):=by simpa using hs
  have hm:=mul_ref ha hb2 h1.1 h1.2 9223372036854775807 (by rw[if_neg hs']);have ht:=tdiv_rng (L:=9223372036854775807) (by decide) hbp';simp-dsimp[go_sem,hN];refine qaa (c_ref01_size a ha) ?_;simp-dsimp[go_sem,hN];refine qaa (c_ref01_size b hb2) ?_;simp-dsimp[go_sem,hN,hbp];rw[U64_in ht.1 (by omega)];refine cnd ?_ ?_<;>intro h2<;>simp at h2
  ·have e:=s2 (hm.1 h2);simp-dsimp[go_sem,hN,e]
  ·have hi:i64 (a * b):=by
    by_cases hi:i64 (a * b)
    ·exact hi
    ·exact absurd (hm.2 hi) (by omega)
   have e:=s1 hi;have hwr:IntKind.i64.wrap (a * b)=a * b:=wrapI hi.1 (by have:=hi.2;omega);simp-dsimp[go_sem,hN,e,hwr]
theorem c_ref01_Div(a b:Int)(ha:i64 a)(hb2:i64 b):APure Tryz.prog 301 [I a,I b] (.tuple [I (numDiv a b).1,I (numDiv a b).2]):=by
 refine qak Tryz.func301 Tryz.ntmps301 rfl (by kernel_rfl) rfl rfl fun E h hN hh hu hb=>?_;simp-dsimp[go_sem,hN];refine cnd ?_ ?_<;>intro h0<;>simp at h0<;>simp-dsimp[go_sem,hN]
 ·grind[numDiv]
 refine cnd ?_ ?_<;>intro h1<;>simp at h1<;>simp-dsimp[go_sem,hN]
 ·refine qaa (c_ref01_Neg a ha) ?_;simp-dsimp[go_sem,hN];grind[numDiv]
 repeat refine⟨by grind,?_⟩
 refine cnd ?_ ?_<;>intro h3<;>simp at h3<;>simp-dsimp[go_sem,hN]<;>grind[numDiv]
theorem c_ref01_Mod(a b:Int):APure Tryz.prog 302 [I a,I b] (.tuple [I (numMod a b).1,I (numMod a b).2]):=by
 refine qak Tryz.func302 Tryz.ntmps302 rfl (by kernel_rfl) rfl rfl fun E h hN hh hu hb=>?_;simp-dsimp[go_sem,hN];refine cnd ?_ ?_<;>intro h0<;>simp at h0<;>simp-dsimp[go_sem,hN]
 ·grind[numMod]
 refine cnd ?_ ?_<;>intro h1<;>simp at h1<;>simp-dsimp[go_sem,hN]
 ·grind[numMod]
 repeat refine⟨by grind,?_⟩
 refine cnd ?_ ?_<;>intro h3<;>simp at h3<;>simp-dsimp[go_sem,hN]<;>grind[numMod]
theorem itoa_abs(n:Int):Lib.itoa n=if n<0 then 45::Lib.decDigits (absI n).toNat else Lib.decDigits (absI n).toNat:=by
 unfold Lib.itoa absI;split
 ·congr 2;omega
 ·rfl
theorem c_ref01_Format(n:Int)(hn:i64 n):APure Tryz.prog 287 [I n] (S (qbc n)):=by
 refine qak Tryz.func287 Tryz.ntmps287 rfl (by kernel_rfl) rfl rfl fun E h hN hh hu hb=>?_;simp-dsimp[go_sem,hN];refine qaa (c_ref01_size n hn) ?_;simp-dsimp[go_sem,hN];obtain⟨U,hU⟩:∃U:Nat,absI n=U:=⟨(absI n).toNat,by unfold absI;split<;>omega⟩
 have hUl:(Lib.decDigits U).length≤21:=by
  have h1:=Lib.itoa_length_le n hn.1 hn.2;rw[itoa_abs,hU]at h1;split at h1
  ·simp at h1;omega
  ·simpa using h1
 have hU64:U≤18446744073709551615:=by
  have:=hn.1;have:=hn.2;have:absI n≤9223372036854775808:=by unfold absI;split<;>omega
  omega
 refine awp_loopM (α:=Nat×qac) (fun x=>digL x.1 x.2=Lib.decDigits U∧x.1≤18446744073709551615) (fun x=>⟨[(0,I n),(3,.val (.int .u64 x.1)),(4,S x.2)],h⟩) (fun x=>x.1+if x.2=em then 1 else 0) (U,em) ⟨by simp[digL,bl],hU64⟩ (wkA (by simp[go_sem,hU])) ?_;rintro⟨u,s⟩ ⟨hI,hle⟩;dsimp only at hI hle;have hsl:=digL_len u s;rw[hI]at hsl;simp-dsimp[go_sem,hN];have htm:((u:Int).tmod 10)=((u % 10:Nat):Int):=rfl;have hd:IntKind.u8.wrap (IntKind.u64.wrap (48+(u:Int).tmod 10))=((48+u % 10:Nat):Int):=by
  rw[htm,U64_in (by omega) (by omega)];simp only[IntKind.wrap,IntKind.bits,IntKind.signed];simp;omega
 have hq:IntKind.u64.wrap ((u:Int) / 10)=((u / 10:Nat):Int):=by
  rw[U64_in (by omega) (by omega)];simp
 refine cnd (fun hc=>?_) (fun hc=>?_)
 ·have hc':0<u∨s=em:=by simpa[em]using hc
  have hne:dig u++s≠em:=fun e=>by
   have:=congrArg ByteArray.size e;rw[ByteArray.size_append]at this;have h1:(dig u).size=1:=rfl;have h2:ByteArray.size em=0:=rfl;omega
  have hdg:({ data:=#[UInt8.ofNat (48+u % 10)] }:ByteArray)=dig u:=rfl;simp-dsimp[go_sem,hN,hd,hq];refine⟨?_,by omega,u / 10,dig u++s,⟨by rw[digL_step hc'];exact hI,by omega⟩,?_,?_⟩
  ·simp[byteSl,go_sem]
  ·rw[if_neg hne];rcases hc' with h1|h1
   ·omega
   ·rw[if_pos h1];omega
  ·have hx:({ data:=#[UInt8.ofNat (48+(u:Int) % 10).toNat] }:ByteArray)=dig u:=by
    unfold dig;have:(48+(u:Int) % 10).toNat=48+u % 10:=by omega
    rw[this]
   exact Wk.mk (by simp[hh]) (by simp[go_sem]) (by simp[hu,qan hu,go_sem]) (by simp[go_sem,hx])
 ·have hc':u=0∧s≠em:=by simp at hc;exact⟨by omega,by simpa[em]using hc.2⟩
  obtain⟨rfl,hne⟩:=hc';rw[digL_end hne]at hI;simp-dsimp[go_sem,hN];refine cnd ?_ ?_<;>intro h2<;>simp at h2
  ·simp-dsimp[go_sem,hN];refine⟨by omega,?_⟩;refine bl_inj ?_;have e1:bl (qbc n)=Lib.itoa n:=by simp[bl,qbc]
   have e2:bl (({ data:=#[45] }:ByteArray)++s)=45::bl s:=by simp[bl]
   rw[e1,e2,itoa_abs,if_pos h2,hI,hU];rfl
  ·simp-dsimp[go_sem,hN];refine bl_inj ?_;have e1:bl (qbc n)=Lib.itoa n:=by simp[bl,qbc]
   rw[e1,itoa_abs,if_neg (by omega),hI,hU];rfl
end Go.Proofs.YtilhejdbiionhaaGreatDoor

set_option maxRecDepth 4000
set_option maxHeartbeats 2000000
namespace Go.Proofs.YtilhejdbiionhaaGreatDoor
open Go Go.Abs Go.Cw
section
attribute [local go_sem] RM.c
variable (C:Cfg)
theorem qbm(m:RM)(c:Int):APure Tryz.prog 198 [.agg (m.c C),I c] (.agg ((m.ab c).c C)):=by
 refine qak Tryz.func198 Tryz.ntmps198 rfl (by kernel_rfl) rfl rfl fun E h hN hh hu hb=>?_;simp-dsimp[go_sem,hN]
 try simp[RM.ab]
theorem c_ref15_restart(m:RM)(k:qac):APure Tryz.prog 246 [.agg (m.c C),S k] (.agg ((m.rst k).c C)):=by
 refine qak Tryz.func246 Tryz.ntmps246 rfl (by kernel_rfl) rfl rfl fun E h hN hh hu hb=>?_;simp-dsimp[go_sem,hN]
 try simp[RM.rst]
theorem qbw(m:RM):APure Tryz.prog 101 [.agg (m.c C)] (Bo (decide (m.st=0))):=by
 refine qak Tryz.func101 Tryz.ntmps101 rfl (by kernel_rfl) rfl rfl fun E h hN hh hu hb=>?_;simp-dsimp[go_sem,hN]
theorem c_ref15_with(l:List qac)(k:qac)(hB:l.length+1≤68719476736):APure Tryz.prog 247 [.slice (l.map qa1),S k] (.slice ((withS l k).map qa1)):=by
 have hle:=posS_le k l;refine qak Tryz.func247 Tryz.ntmps247 rfl (by kernel_rfl) rfl rfl fun E h hN hh hu hb=>?_;simp[go_sem]at hb;simp-dsimp[go_sem,hN];refine qam l.length (fun n=>n+posS k (l.drop n)=posS k l) (fun n=>⟨[(0,.slice (l.map qa1)),(1,S k),(5,I n)],h⟩) (by simp) wkA ?_;intro n hn hI;have hw:=qa2 hn (show _≤68719476736 by omega);simp-dsimp[go_sem,hN];by_cases hc:n<l.length
 ·rw[qaf hc,posS]at hI;simp-dsimp[go_sem,hN,hc];refine cnd ?_ ?_<;>intro hg<;>try simp at hg
  ·simp-dsimp[go_sem,hN,hw];rw[if_pos hg]at hI;exact⟨hc,by omega,wkA⟩
  ·rw[if_neg (by simp[hg])]at hI;have hp:posS k l=n:=by omega
   simp-dsimp[go_sem,hN,hc];refine cnd ?_ ?_<;>intro hk<;>try simp at hk
   ·simp-dsimp[go_sem,hN];unfold withS;rw[hp,if_pos (by rw[List.getElem?_eq_getElem hc,hk])]
   ·simp-dsimp[go_sem,hN];refine⟨by omega,by omega,by omega,by omega,by omega,?_⟩;rw[if_pos (by omega)];unfold withS;rw[hp,if_neg (by rw[List.getElem?_eq_getElem hc];simpa using hk)];simp[qa1,List.map_take,List.map_drop]
 ·rw[List.drop_eq_nil_of_le (by omega),posS]at hI;have hp:posS k l=n:=by omega
  have hnone:l[n]?=none:=List.getElem?_eq_none (by omega);simp-dsimp[go_sem,hN,hc];refine⟨by omega,by omega,by omega,by omega,by omega,?_⟩;rw[if_pos (by omega)];unfold withS;rw[hp,if_neg (by simp[hnone])];simp[qa1,List.map_take,List.map_drop]
theorem c_ref15_set(l:List Pr)(p:Pr)(hB:l.length+1≤68719476736):APure Tryz.prog 99 [.slice (l.map Pr.c),.agg p.c] (.slice ((setR l p).map Pr.c)):=by
 have hle:=posP_le p.key l;refine qak Tryz.func99 Tryz.ntmps99 rfl (by kernel_rfl) rfl rfl fun E h hN hh hu hb=>?_;simp[go_sem]at hb;simp-dsimp[go_sem,hN];refine qam l.length (fun n=>n+posP p.key (l.drop n)=posP p.key l) (fun n=>⟨[(0,.slice (l.map Pr.c)),(3,P0 h.length),(5,I n)],h++[.cells p.c]⟩) (by simp) wkA ?_;intro n hn hI;have hw:=qa2 hn (show _≤68719476736 by omega);simp-dsimp[go_sem,hN];refine qai 12 mixed (by kernel_rfl) (by kernel_rfl) ?_;by_cases hc:n<l.length
 ·rw[qaf hc,posP]at hI;simp-dsimp[go_sem,hN,hc];refine cnd ?_ ?_<;>intro hg<;>try simp at hg
  ·simp-dsimp[go_sem,hN,hw];rw[if_pos hg]at hI;exact⟨hc,by omega,wkA⟩
  ·rw[if_neg (by simp[hg])]at hI;have hp:posP p.key l=n:=by omega
   simp-dsimp[go_sem,hN];refine qai 12 mixed (by kernel_rfl) (by kernel_rfl) ?_;simp-dsimp[go_sem,hN,hc];refine cnd ?_ ?_<;>intro hk<;>try simp at hk
   ·have e:setR l p=l.take n++p::l.drop (n+1):=by
     unfold setR restP;rw[hp,if_pos (by simp[List.getElem?_eq_getElem hc,hk])]
    simp-dsimp[go_sem,hN,hw];refine⟨by omega,by omega,by omega,by omega,by omega,?_⟩;rw[if_pos (by omega),e];simp[List.map_take,List.map_drop,Pr.c,V.c]
   ·have e:setR l p=l.take n++p::l.drop n:=by
     unfold setR restP;rw[hp,if_neg (by simp[List.getElem?_eq_getElem hc];simpa using hk)]
    simp-dsimp[go_sem,hN];refine⟨by omega,by omega,by omega,by omega,by omega,?_⟩;rw[if_pos (by omega),e];simp[List.map_take,List.map_drop,Pr.c,V.c]
 ·rw[List.drop_eq_nil_of_le (by omega),posP]at hI;have hp:posP p.key l=n:=by omega
  have hnone:l[n]?=none:=List.getElem?_eq_none (by omega);have e:setR l p=l.take n++p::l.drop n:=by
   unfold setR restP;rw[hp,if_neg (by simp[hnone])]
  simp-dsimp[go_sem,hN,hc];refine qai 12 mixed (by kernel_rfl) (by kernel_rfl) ?_;simp-dsimp[go_sem,hN,hc];refine⟨by omega,by omega,by omega,by omega,by omega,?_⟩;rw[if_pos (by omega),e];simp[List.map_take,List.map_drop,Pr.c,V.c]
theorem c_ref15_Fetch(m:RM)(k:qac)(hB:m.reads.length+1≤68719476736):APure Tryz.prog 288 [.agg (m.c C),S k] (.tuple [.agg (qbl C m k).1.c,.agg ((qbl C m k).2.c C)]):=by
 refine qak Tryz.func288 Tryz.ntmps288 rfl (by kernel_rfl) rfl rfl fun E h hN hh hu hb=>?_;simp-dsimp[go_sem,hN];refine qaa (c_ref04_Valid k) ?_;simp-dsimp[go_sem,hN];refine cnd ?_ ?_<;>intro h0<;>try simp at h0
 ·have e:qbl C m k=(V.nil,m.ab 1004):=by unfold qbl;rw[if_pos h0]
  rw[e];simp-dsimp[go_sem,hN];refine qaa (qbm C m 1004) ?_;simp-dsimp[go_sem,hN]
 simp-dsimp[go_sem,hN];refine qaa (c_ref15_Has m.puts k) ?_;simp-dsimp[go_sem,hN];refine cnd ?_ ?_<;>intro h1<;>try simp at h1
 ·have e:qbl C m k=(getP m.own k,m):=by unfold qbl;rw[if_neg (by simp[h0]),if_pos h1]
  rw[e];simp-dsimp[go_sem,hN];refine qa4 6 mixed (by kernel_rfl) ?_;simp-dsimp[go_sem,hN];refine qax (c_ref06_Get m.own k) (by simp) ?_;simp-dsimp[go_sem,hN];simp[sepD,List.zipIdx]
 simp-dsimp[go_sem,hN];refine qae (c_ref15_Has C.rd k) (by simp) ?_;simp-dsimp[go_sem,hN];refine cnd (fun h2=>?_) (fun h2=>?_)
 ·have e:qbl C m k=(V.nil,m.rst k):=by unfold qbl;rw[if_neg (by simp[h0]),if_neg (by simp[h1]),if_pos (by simpa using h2)]
  rw[e];simp-dsimp[go_sem,hN];refine qaa (c_ref15_restart C m k) ?_;simp-dsimp[go_sem,hN]
 ·have e:qbl C m k=(getP C.state k,{ m with reads:=withS m.reads k }):=by unfold qbl;rw[if_neg (by simp[h0]),if_neg (by simp[h1]),if_neg (by simpa using h2)]
  rw[e];simp-dsimp[go_sem,hN];refine qaa (c_ref15_with m.reads k hB) ?_;simp-dsimp[go_sem,hN];refine qa4 6 mixed (by kernel_rfl) ?_;simp-dsimp[go_sem,hN];refine qax (c_ref06_Get C.state k) (by simp) ?_;simp-dsimp[go_sem,hN];simp[sepD,List.zipIdx]
theorem c_ref15_Store(m:RM)(k:qac)(v:V)(hB:m.puts.length+1≤68719476736)(hB2:m.own.length+1≤68719476736):APure Tryz.prog 200 [.agg (m.c C),S k,.agg v.c] (.agg ((storeR C m k v).c C)):=by
 refine qak Tryz.func200 Tryz.ntmps200 rfl (by kernel_rfl) rfl rfl fun E h hN hh hu hb=>?_;simp-dsimp[go_sem,hN];refine qaa (c_ref04_Valid k) ?_;simp-dsimp[go_sem,hN];refine cnd ?_ ?_<;>intro h0<;>try simp at h0
 ·have e:storeR C m k v=m.ab 1004:=by unfold storeR;rw[if_pos h0]
  rw[e];simp-dsimp[go_sem,hN];refine qaa (qbm C m 1004) ?_;simp-dsimp[go_sem,hN]
 simp-dsimp[go_sem,hN];refine qae (c_ref15_Has C.wr k) (by simp) ?_;simp-dsimp[go_sem,hN];refine cnd (fun h2=>?_) (fun h2=>?_)
 ·have e:storeR C m k v=m.rst k:=by unfold storeR;rw[if_neg (by simp[h0]),if_pos (by simpa using h2)]
  rw[e];simp-dsimp[go_sem,hN];refine qaa (c_ref15_restart C m k) ?_;simp-dsimp[go_sem,hN]
 ·have e:storeR C m k v = { m with puts:=withS m.puts k,own:=setR m.own ⟨k,v⟩ }:=by unfold storeR;rw[if_neg (by simp[h0]),if_neg (by simpa using h2)]
  rw[e];simp-dsimp[go_sem,hN];refine qaa (c_ref15_with m.puts k hB) ?_;simp-dsimp[go_sem,hN];refine qaa (c_ref15_set m.own ⟨k,v⟩ hB2) ?_;simp-dsimp[go_sem,hN]
theorem c_ref15_Emit(m:RM)(v:V)(hB:m.out.length+1≤68719476736):APure Tryz.prog 201 [.agg (m.c C),.agg v.c] (.agg ((emitR m v).c C)):=by
 refine qak Tryz.func201 Tryz.ntmps201 rfl (by kernel_rfl) rfl rfl fun E h hN hh hu hb=>?_;simp-dsimp[go_sem,hN];refine cnd ?_ ?_<;>intro h0<;>simp at h0
 ·have e:emitR m v=m.ab 1007:=by unfold emitR;rw[if_pos (by omega)]
  rw[e];simp-dsimp[go_sem,hN];refine qaa (qbm C m 1007) ?_;simp-dsimp[go_sem,hN]
 ·have e:emitR m v = { m with out:=m.out++[v] }:=by unfold emitR;rw[if_neg (by omega)]
  rw[e];simp-dsimp[go_sem,hN];exact⟨by omega,by omega⟩
theorem c_ref15_Tick(m:RM):APure Tryz.prog 152 [.agg (m.c C)] (.agg ((qdo m).c C)):=by
 refine qak Tryz.func152 Tryz.ntmps152 rfl (by kernel_rfl) rfl rfl fun E h hN hh hu hb=>?_;simp-dsimp[go_sem,hN];refine cnd ?_ ?_<;>intro h0<;>simp at h0
 ·have e:qdo m=({ m with steps:=W64 (m.steps+1) }:RM).ab 1008:=by unfold qdo;rw[if_pos h0]
  rw[e];simp-dsimp[go_sem,hN];refine qaa (qbm C { m with steps:=W64 (m.steps+1) } 1008) ?_;simp-dsimp[go_sem,hN]
 ·have e:qdo m = { m with steps:=W64 (m.steps+1) }:=by unfold qdo;rw[if_neg (by have:W64 (m.steps+1)=IntKind.i64.wrap (m.steps+1):=rfl;omega)]
  rw[e];simp-dsimp[go_sem,hN]
theorem c_ref15_Commit(m:RM):APure Tryz.prog 103 [.agg (m.c C)] (.agg (Eff.c ⟨1,m.code,m.out,m.reads,m.puts,m.own,m.miss,m.steps⟩)):=by
 refine qak Tryz.func103 Tryz.ntmps103 rfl (by kernel_rfl) rfl rfl fun E h hN hh hu hb=>?_;simp-dsimp[go_sem,hN]
theorem c_ref15_ended(m:RM):APure Tryz.prog 102 [.agg (m.c C)] (.agg (Eff.c ⟨m.st,m.code,[],m.reads,m.puts,[],m.miss,m.steps⟩)):=by
 refine qak Tryz.func102 Tryz.ntmps102 rfl (by kernel_rfl) rfl rfl fun E h hN hh hu hb=>?_;simp-dsimp[go_sem,hN]
theorem c_ref15_nothing:APure Tryz.prog 98 [] (.agg wrongE.c):=by
 refine qak Tryz.func98 Tryz.ntmps98 rfl (by kernel_rfl) rfl rfl fun E h hN hh hu hb=>?_;simp-dsimp[go_sem,hN,wrongE]
theorem c_ref15_num(n:Int):APure Tryz.prog 240 [I n] (.agg (vI n).c):=by
 refine qak Tryz.func240 Tryz.ntmps240 rfl (by kernel_rfl) rfl rfl fun E h hN hh hu hb=>?_;simp-dsimp[go_sem,hN,vI]
theorem qc3(b:Bool):APure Tryz.prog 284 [Bo b] (.agg (vB b).c):=by
 refine qak Tryz.func284 Tryz.ntmps284 rfl (by kernel_rfl) rfl rfl fun E h hN hh hu hb=>?_;simp-dsimp[go_sem,hN];refine cnd (fun h0=>?_) (fun h0=>?_)<;>subst h0<;>simp-dsimp[go_sem,hN,vB]
theorem qbf(m:RM):APure Tryz.prog 242 [.agg (m.c C)] (.tuple [.agg V.nil.c,.agg ((m.ab 1009).c C)]):=by
 refine qak Tryz.func242 Tryz.ntmps242 rfl (by kernel_rfl) rfl rfl fun E h hN hh hu hb=>?_;simp-dsimp[go_sem,hN];refine qaa (qbm C m 1009) ?_;simp-dsimp[go_sem,hN]
theorem c_ref15_calculated(m:RM)(n e:Int):APure Tryz.prog 283 [.agg (m.c C),I n,I e] (.tuple [.agg (calcR m (n,e)).1.c,.agg ((calcR m (n,e)).2.c C)]):=by
 refine qak Tryz.func283 Tryz.ntmps283 rfl (by kernel_rfl) rfl rfl fun E h hN hh hu hb=>?_;simp-dsimp[go_sem,hN];refine cnd ?_ ?_<;>intro h0<;>simp at h0
 ·have e1:calcR m (n,e)=(V.nil,m.ab 1002):=by unfold calcR;rw[if_pos h0]
  rw[e1];simp-dsimp[go_sem,hN];refine qaa (qbm C m 1002) ?_;simp-dsimp[go_sem,hN]
 simp-dsimp[go_sem,hN];refine cnd ?_ ?_<;>intro h1<;>simp at h1
 ·have e1:calcR m (n,e)=(V.nil,m.ab 1001):=by unfold calcR;rw[if_neg h0,if_pos h1]
  rw[e1];simp-dsimp[go_sem,hN];refine qaa (qbm C m 1001) ?_;simp-dsimp[go_sem,hN]
 ·have e1:calcR m (n,e)=(vI n,m):=by unfold calcR;rw[if_neg h0,if_neg (by simpa using h1)]
  rw[e1];simp-dsimp[go_sem,hN];refine qa4 4 mixed (by kernel_rfl) ?_;simp-dsimp[go_sem,hN];refine qax (c_ref15_num n) (by simp) ?_;simp-dsimp[go_sem,hN]
  all_goals try simp[sepD,List.zipIdx]
theorem c_ref15_arithmetic(op a b:Int)(ha:i64 a)(hb2:i64 b):APure Tryz.prog 282 [I op,I a,I b] (.tuple [I (arithR op a b).1,I (arithR op a b).2]):=by
 refine qak Tryz.func282 Tryz.ntmps282 rfl (by kernel_rfl) rfl rfl fun E h hN hh hu hb=>?_;by_cases h4:op=4
 ·subst h4;simp-dsimp[go_sem,hN];refine qaa (c_ref01_Add a b ha hb2) ?_;simp-dsimp[go_sem,hN,arithR]
 by_cases h5:op=5
 ·subst h5;simp-dsimp[go_sem,hN];refine qaa (c_ref01_Sub a b ha hb2) ?_;simp-dsimp[go_sem,hN,arithR]
 by_cases h6:op=6
 ·subst h6;simp-dsimp[go_sem,hN];refine qaa (c_ref01_Mul a b ha hb2) ?_;simp-dsimp[go_sem,hN,arithR]
 by_cases h7:op=7
 ·subst h7;simp-dsimp[go_sem,hN];refine qaa (c_ref01_Div a b ha hb2) ?_;simp-dsimp[go_sem,hN,arithR]
 simp-dsimp[go_sem,hN,h4,h5,h6,h7];refine qaa (c_ref01_Mod a b) ?_;simp-dsimp[go_sem,hN,arithR,h4,h5,h6,h7]
theorem c_ref15_compared(op c:Int):APure Tryz.prog 285 [I op,I c] (Bo (cmpBy op c)):=by
 refine qak Tryz.func285 Tryz.ntmps285 rfl (by kernel_rfl) rfl rfl fun E h hN hh hu hb=>?_;by_cases h10:op=10
 ·subst h10;simp-dsimp[go_sem,hN,cmpBy]
 by_cases h11:op=11
 ·subst h11;simp-dsimp[go_sem,hN,cmpBy]
 by_cases h12:op=12
 ·subst h12;simp-dsimp[go_sem,hN,cmpBy]
 by_cases h13:op=13
 ·subst h13;simp-dsimp[go_sem,hN,cmpBy]
 by_cases h14:op=14
 ·subst h14;simp-dsimp[go_sem,hN,cmpBy]
 simp-dsimp[go_sem,hN,cmpBy,h10,h11,h12,h13,h14]
end
end Go.Proofs.YtilhejdbiionhaaGreatDoor

set_option maxRecDepth 8000
set_option maxHeartbeats 2000000
namespace Go.Proofs.YtilhejdbiionhaaGreatDoor
open Go Go.Abs Go.Cw
variable {tT:TypeId} {tx:Nat×Nat} {g:Nat}
end Go.Proofs.YtilhejdbiionhaaGreatDoor

set_option maxRecDepth 8000
set_option maxHeartbeats 2000000
namespace Go.Proofs.YtilhejdbiionhaaGreatDoor
open Go Go.Abs Go.Cw
variable {tT:TypeId} {tx:Nat×Nat} {g:Nat}
def runC(p:Proc)(args:List V)(ft:Foot):List AV:=[S p.name,.slice (p.params.map Param.c),.slice (p.body.map St.c),.slice (args.map V.c),Bo ft.all,.slice (ft.reads.map qa1),.slice (ft.writes.map qa1)]
attribute [local go_sem] runC
end Go.Proofs.YtilhejdbiionhaaGreatDoor

set_option maxRecDepth 8000
set_option maxHeartbeats 2000000
namespace Go.Proofs.YtilhejdbiionhaaGreatDoor
open Go Go.Abs Go.Cw
theorem c_ref15_ascending(l:List qac):APure Tryz.prog 151 [.slice (l.map qa1)] (Bo (ascK none l&&decide ((l.length:Int)≤64))):=by
 refine qak Tryz.func151 Tryz.ntmps151 rfl (by kernel_rfl) rfl rfl fun E h hN hh hu hb=>?_;simp[go_sem]at hb;simp-dsimp[go_sem,hN];refine qam l.length (fun n=>ascK (qcu l n) (l.drop n)=ascK none l) (fun n=>⟨[(0,.slice (l.map qa1)),(3,I n)],h⟩) (by simp[qcu]) wkA ?_;intro n hn hI;have hw:=qa2 hn hb.1;simp-dsimp[go_sem,hN];refine cnd ?_ ?_<;>intro hc<;>simp at hc
 ·rw[qaf hc,ascK]at hI;simp-dsimp[go_sem,hN,hc];refine qai 19 mixed (by kernel_rfl) (by kernel_rfl) ?_;simp-dsimp[go_sem,hN,hc];refine qax (c_ref04_Valid _) (by simp) ?_;cases n with
  |zero =>
   simp-dsimp[go_sem,hN];refine cnd ?_ ?_<;>intro hg<;>try simp at hg
   ·simp-dsimp[go_sem,hN];grind[qcu,after]
   ·simp-dsimp[go_sem,hN,hw];exact⟨hc,by simpa[hg,qcu,hc,after]using hI,wkA⟩
  |succ m =>
   have hm:m<l.length:=by omega
   have hw2:=wrapN (Nat.le_of_lt hm) hb.1;simp at hw;simp-dsimp[go_sem,hN,hw2,hm,hc];refine⟨fun hk=>⟨hk,by omega⟩,cnd (fun hg=>?_) (fun hg=>?_)⟩<;>rw[sLe_not]at hg<;>simp at hg
   ·simp-dsimp[go_sem,hN];rw[←hI];rcases hg with h1|h1<;>simp[qcu,hm,after,h1]
   ·simp-dsimp[go_sem,hN,hw];simp[hg,qcu,hm,after]at hI;exact⟨hc,by simpa[qcu,hc]using hI,wkA⟩
 ·rw[List.drop_eq_nil_of_le (by omega),ascK]at hI;simp-dsimp[go_sem,hN,←hI]
theorem c_ref15_ValidFoot(f:Foot):APure Tryz.prog 97 [.agg f.c] (Bo (footOk f.all f.reads f.writes)):=by
 refine qak Tryz.func97 Tryz.ntmps97 rfl (by kernel_rfl) rfl rfl fun E h hN hh hu hb=>?_;simp-dsimp[go_sem,hN];refine cnd ?_ ?_<;>intro h0<;>try simp at h0
 all_goals simp-dsimp[go_sem,hN,footOk,h0]
 refine qaa (c_ref15_ascending f.reads) ?_;simp-dsimp[go_sem,hN];refine qae (c_ref15_ascending f.writes) (by simp) ?_;simp-dsimp[go_sem,hN,footOk,h0]
variable {tT:TypeId} {tx:Nat×Nat} {g:Nat}
attribute [local go_sem] runC
end Go.Proofs.YtilhejdbiionhaaGreatDoor
