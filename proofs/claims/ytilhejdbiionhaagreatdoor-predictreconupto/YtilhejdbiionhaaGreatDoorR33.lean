/- Part 33 of a proof: W4, W5, W6, W7, W8 -/
import Derived.Test.YtilhejdbiionhaaGreatDoorR13
import Derived.Test.YtilhejdbiionhaaGreatDoorR21
import Derived.Test.YtilhejdbiionhaaGreatDoorR32
set_option linter.all false

set_option maxRecDepth 4000
namespace Go.Proofs.YtilhejdbiionhaaGreatDoor
open Go Go.Abs Go.Cw
theorem c_lexer_letter(c:Int):APure Tryz.prog 230 [.val (.int .i32 c)] (Bo (ltr c)):=by
 refine qak Tryz.func230 Tryz.ntmps230 rfl (by kernel_rfl) rfl rfl fun E h hN hh hu hb=>?_;simp-dsimp[go_sem,hN,ltr]
theorem c_lexer_word(s:qac):APure Tryz.prog 231 [S s] (I (wordLen (bl s))):=by
 refine qak Tryz.func231 Tryz.ntmps231 rfl (by kernel_rfl) rfl rfl fun E h hN hh hu hb=>?_;simp[go_sem]at hb;simp-dsimp[go_sem,hN];refine qam s.size (fun n=>n+wordLen ((bl s).drop n)=wordLen (bl s)) (fun n=>⟨[(0,S s),(6,P0 h.length)],h++[.iter s n]⟩) (by simp) wkA ?_;intro n hn hI;have hw:=qa2 hn hb;simp-dsimp[go_sem,hN];by_cases hc:n<s.size
 ·rw[bdrop hc,wordLen]at hI;simp-dsimp[go_sem,hN,hc];refine qaa (c_lexer_letter _) ?_;simp-dsimp[go_sem,hN];by_cases h8:(bAt s n).toNat<128
  ·simp only[dec_lo hc h8];refine⟨by grind,cnd (fun hg=>?_) (fun hg=>?_)⟩
   ·have hg':wordI ((bAt s n).toNat:Int)=false:=by simp[wordI]at hg⊢;grind
    simp-dsimp[go_sem,hN];rw[←hI];simp[hg']
   ·have hg':wordI ((bAt s n).toNat:Int)=true:=by simp[wordI]at hg⊢;grind
    simp-dsimp[go_sem,hN,hw];exact⟨hc,by rw[if_pos hg']at hI;omega,wkA⟩
  ·have h9:=dec_hi hc h8;have hg':wordI ((bAt s n).toNat:Int)=false:=by simp[wordI,ltr];omega
   have hl:ltr ((Utf8.decode s n).1:Int)=false:=by simp[ltr];omega
   refine⟨by grind,cnd (fun hg=>?_) (fun hg=>?_)⟩
   ·simp-dsimp[go_sem,hN];rw[←hI];simp[hg']
   ·simp[hl]at hg;omega
 ·rw[bend hc,wordLen]at hI;simp-dsimp[go_sem,hN,hc];have:wordLen (bl s)=s.size:=by omega
  simp[this]
theorem c_lexer_IsKeyword(s:qac):APure Tryz.prog 232 [S s] (Bo (kw s)):=by
 refine qak Tryz.func232 Tryz.ntmps232 rfl (by kernel_rfl) rfl rfl fun E h hN hh hu hb=>?_;simp-dsimp[go_sem,hN]
 iterate 25
  refine cnd (fun hg=>?_) (fun hg=>?_)
  ·simp at hg;subst hg;simp-dsimp[go_sem,hN];rfl
  simp-dsimp[go_sem,hN]
  try simp at hg
 simp[kw, *]
theorem c_ast_plain(s:qac):APure Tryz.prog 298 [S s] (Bo (qa3 s)):=by
 refine qak Tryz.func298 Tryz.ntmps298 rfl (by kernel_rfl) rfl rfl fun E h hN hh hu hb=>?_;simp[go_sem]at hb;simp-dsimp[go_sem,hN];refine qam s.size (fun n=>allL okB ((bl s).drop n)=allL okB (bl s)) (fun n=>⟨[(0,S s),(3,I n)],h⟩) (by simp) wkA ?_;intro n hn hI;have hw:=qa2 hn hb;simp-dsimp[go_sem,hN];refine cnd ?_ ?_<;>intro hc<;>simp at hc
 ·rw[bdrop hc,allL]at hI;simp-dsimp[go_sem,hN,hc];refine cnd (fun hg=>?_) (fun hg=>?_)
  ·simp-dsimp[go_sem,hN];simp[qa3,←hI,okB,hg]
  ·simp-dsimp[go_sem,hN,hw];exact⟨hc,by simpa[okB,hg]using hI,wkA⟩
 ·rw[bend (by omega),allL]at hI;simp-dsimp[go_sem,hN,qa3,←hI]
theorem c_ast_Arity(op:Int):APure Tryz.prog 297 [I op] (I (qb0 op)):=by
 refine qak Tryz.func297 Tryz.ntmps297 rfl (by kernel_rfl) rfl rfl fun E h hN hh hu hb=>?_;simp-dsimp[go_sem,hN];refine cnd ?_ ?_<;>intro h0<;>simp at h0<;>simp-dsimp[go_sem,hN,qb0,h0];refine cnd ?_ ?_<;>intro h1<;>simp at h1<;>simp-dsimp[go_sem,hN,qb0,h0,h1];refine cnd ?_ ?_<;>intro h2<;>simp at h2<;>simp-dsimp[go_sem,hN,qb0]
 ·rw[if_neg (by omega),if_neg (by omega),if_pos (by omega)]
 ·rw[if_neg (by omega),if_neg (by omega),if_neg (by omega)]
theorem c_lexer_IsName(s:qac):APure Tryz.prog 191 [S s] (Bo (nameOk s)):=by
 refine qak Tryz.func191 Tryz.ntmps191 rfl (by kernel_rfl) rfl rfl fun E h hN hh hu hb=>?_;rcases sz_em s with rfl|h1
 ·simp-dsimp[go_sem,hN,nameOk];refine tgcall_if .top (by simp) (by simp) ?_;simp-dsimp[go_sem,hN];refine tgcall_if .top (by simp) (by simp) ?_;simp-dsimp[go_sem,hN];refine tgcall_if .top (by simp) (by simp) ?_;simp-dsimp[go_sem,hN,nameOk]
 ·have h1':0<s.size:=by omega
  have he:¬s=em:=by rintro rfl;simp at h1
  simp-dsimp[go_sem,hN,h1',he];refine qae (c_lexer_letter _) (by simp) ?_;simp-dsimp[go_sem,hN];refine qae (c_lexer_word s) (by simp) ?_;simp-dsimp[go_sem,hN];refine qae (c_lexer_IsKeyword s) (by simp) ?_;simp-dsimp[go_sem,hN,nameOk,he]
theorem c_ast_node(op n:Int)(s:qac)(args:List Ex)(d:Nat):APure Tryz.prog 279 [.agg [I op,I n,S s,.slice (args.map Ex.c)],I d] (I (qcb op n s args.length d)):=by
 refine qak Tryz.func279 Tryz.ntmps279 rfl (by kernel_rfl) rfl rfl fun E h hN hh hu hb=>?_;simp-dsimp[go_sem,hN];refine qaa (c_ast_Arity _) ?_;simp-dsimp[go_sem,hN]
 repeat refine⟨by grind,?_⟩
 refine cnd (fun h0=>?_) (fun h0=>?_)
 ·simp-dsimp[go_sem,hN];simp at h0;rw[qcb,if_pos (by grind)]
 have h0':¬(qb0 op<0∨(op≠1∧n≠0)∨(op≠2∧op≠3∧s≠em)):=by simp at h0;grind
 simp-dsimp[go_sem,hN];refine qae (c_lexer_IsName s) (by simp) ?_;simp-dsimp[go_sem,hN];refine cnd (fun h1=>?_) (fun h1=>?_)
 ·simp-dsimp[go_sem,hN];simp at h1;rw[qcb,if_neg h0',if_pos (by grind)]
 have h1':¬(op=3∧nameOk s=false):=by simp at h1;grind
 simp-dsimp[go_sem,hN]
 repeat refine⟨by grind,?_⟩
 refine qae (c_ast_plain s) (by simp) ?_;simp-dsimp[go_sem,hN]
 repeat refine⟨by grind,?_⟩
 refine cnd (fun h2=>?_) (fun h2=>?_)
 ·simp-dsimp[go_sem,hN];simp at h2;rw[qcb,if_neg h0',if_neg h1',if_pos (by grind)]
 have h2':¬((op=1∧n<0)∨(op=2∧qa3 s=false)∨(args.length:Int)≠qb0 op):=by simp at h2;grind
 simp-dsimp[go_sem,hN];refine cnd ?_ ?_<;>intro h3<;>simp at h3
 ·simp-dsimp[go_sem,hN];rw[qcb,if_neg h0',if_neg h1',if_neg h2',if_pos (by omega)]
 ·simp-dsimp[go_sem,hN];rw[qcb,if_neg h0',if_neg h1',if_neg h2',if_neg (by omega)]
theorem c_ast_check(e:Ex)(d:Nat):APure Tryz.prog 269 [.agg [I e.op,I e.n,S e.s,.slice (e.args.map Ex.c)],I d] (I (chkE e d)):=by
 refine qak Tryz.func269 Tryz.ntmps269 rfl (by kernel_rfl) rfl rfl fun E h hN hh hu hb=>?_;simp[go_sem]at hb;simp-dsimp[go_sem,hN];refine qaa (c_ast_node _ _ _ _ _) ?_;simp-dsimp[go_sem,hN];refine cnd ?_ ?_<;>intro h0<;>simp at h0
 ·simp-dsimp[go_sem,hN];rw[chkE_eq,if_neg h0]
 have hd:d≤12:=by
  unfold qcb at h0;grind
 simp-dsimp[go_sem,hN];refine qam e.args.length (fun n=>chkL (e.args.drop n) (d+1)=chkL e.args (d+1)) (fun n=>⟨[(1,I d),(16,.slice (e.args.map Ex.c)),(17,I e.args.length),(18,I n)],h⟩) (by simp) wkA ?_;intro n hn hI;have hw:=qa2 hn hb.2.1;have hw2:IntKind.i64.wrap ((d:Int)+1)=((d+1:Nat):Int):=by rw[wrapI (by omega) (by omega)];rfl
 simp-dsimp[go_sem,hN];refine cnd ?_ ?_<;>intro hc<;>simp at hc
 ·rw[qaf hc,chkL]at hI;simp-dsimp[go_sem,hN,hc,hw2];have hlt:SizeOf.sizeOf e.args[n]<SizeOf.sizeOf e:=Ex.arg_lt (List.getElem_mem hc);refine qaa (c_ast_check e.args[n] (d+1)) ?_;simp-dsimp[go_sem,hN];refine cnd ?_ ?_<;>intro hg<;>simp at hg
  ·simp-dsimp[go_sem,hN];rw[chkE_eq e,if_pos h0,←hI,if_neg hg]
  ·simp-dsimp[go_sem,hN,hw];exact⟨hc,by simpa[hg]using hI,wkA⟩
 ·rw[List.drop_eq_nil_of_le (by omega),chkL]at hI;simp-dsimp[go_sem,hN];rw[chkE_eq e,if_pos h0,←hI]
termination_by SizeOf.sizeOf e
theorem qej(e:Ex):APure Tryz.prog 237 [.agg [I e.op,I e.n,S e.s,.slice (e.args.map Ex.c)]] (I (chkE e 1)):=by
 refine qak Tryz.func237 Tryz.ntmps237 rfl (by kernel_rfl) rfl rfl fun E h hN hh hu hb=>?_;simp-dsimp[go_sem,hN];refine qaa (c_ast_check e 1) ?_;simp-dsimp[go_sem,hN]
end Go.Proofs.YtilhejdbiionhaaGreatDoor

set_option maxRecDepth 4000
namespace Go.Proofs.YtilhejdbiionhaaGreatDoor
open Go Go.Abs Go.Cw
theorem c_ast_usesOf(op:Int):APure Tryz.prog 235 [I op] (.tuple [.agg (qa8 op).1.c,Bo (qa8 op).2]):=by
 refine qak Tryz.func235 Tryz.ntmps235 rfl (by kernel_rfl) rfl rfl fun E h hN hh hu hb=>?_;by_cases h1:op=1
 ·subst h1;simp-dsimp[go_sem,hN,qa8]
 by_cases h2:op=2
 ·subst h2;simp-dsimp[go_sem,hN,qa8]
 by_cases h3:op=3
 ·subst h3;simp-dsimp[go_sem,hN,qa8]
 by_cases h4:op=4
 ·subst h4;simp-dsimp[go_sem,hN,qa8]
 by_cases h7:op=7
 ·subst h7;simp-dsimp[go_sem,hN,qa8]
 by_cases h5:op=5
 ·subst h5;simp-dsimp[go_sem,hN,qa8]
 by_cases h6:op=6
 ·subst h6;simp-dsimp[go_sem,hN,qa8]
 by_cases h8:op=8
 ·subst h8;simp-dsimp[go_sem,hN,qa8]
 simp-dsimp[go_sem,hN,qa8,h1,h2,h3,h4,h5,h6,h7,h8]
theorem c_ast_absent(e:Ex):APure Tryz.prog 268 [.agg e.x] (Bo (absE e)):=by
 refine qak Tryz.func268 Tryz.ntmps268 rfl (by kernel_rfl) rfl rfl fun E h hN hh hu hb=>?_;simp-dsimp[go_sem,hN,absE]
 try grind
theorem c_ast_shape(s:St)(u:Uses):APure Tryz.prog 236 [.agg s.x,.agg u.c] (Bo (qb9 s u)):=by
 refine qak Tryz.func236 Tryz.ntmps236 rfl (by kernel_rfl) rfl rfl fun E h hN hh hu hb=>?_;simp-dsimp[go_sem,hN]
 repeat refine⟨by grind,?_⟩
 refine qae (c_ast_absent s.a) (by simp) ?_;simp-dsimp[go_sem,hN]
 repeat refine⟨by grind,?_⟩
 refine qae (c_ast_absent s.b) (by simp) ?_;simp-dsimp[go_sem,hN]
 repeat refine⟨by grind,?_⟩
 refine cnd (fun h0=>?_) (fun h0=>?_)
 ·simp-dsimp[go_sem,hN];simp[qb9]at h0⊢;grind
 ·simp-dsimp[go_sem,hN];refine cnd ?_ ?_<;>intro h1<;>simp at h1<;>simp-dsimp[go_sem,hN,h1]
  ·simp[qb9,h1]at h0⊢;grind
  ·refine cnd ?_ ?_<;>intro h2<;>simp at h2<;>simp-dsimp[go_sem,hN,h2]
   ·simp[qb9,h1,h2]at h0⊢;grind
   ·simp[qb9,h1,h2]at h0⊢;grind
end Go.Proofs.YtilhejdbiionhaaGreatDoor

set_option maxRecDepth 4000
namespace Go.Proofs.YtilhejdbiionhaaGreatDoor
open Go Go.Abs Go.Cw
theorem c_ast_statement(s:St)(d:Int):APure Tryz.prog 194 [.agg s.x,I d] (I (qbo s d)):=by
 refine qak Tryz.func194 Tryz.ntmps194 rfl (by kernel_rfl) rfl rfl fun E h hN hh hu hb=>?_;simp-dsimp[go_sem,hN];refine qaa (c_ast_usesOf _) ?_;simp-dsimp[go_sem,hN];refine qae (c_ast_shape s (qa8 s.op).1) (by simp) ?_;simp-dsimp[go_sem,hN];refine cnd (fun h0=>?_) (fun h0=>?_)
 ·simp-dsimp[go_sem,hN];simp at h0;rw[qbo,if_pos (by grind)]
 have h0':¬((qa8 s.op).2=false∨qb9 s (qa8 s.op).1=false):=by simp at h0;grind
 simp-dsimp[go_sem,hN];refine qae (c_lexer_IsName _) (by simp) ?_;simp-dsimp[go_sem,hN];refine cnd (fun h1=>?_) (fun h1=>?_)
 ·simp-dsimp[go_sem,hN];simp at h1;rw[qbo,if_neg h0',if_pos (by grind)]
 have h1':¬((qa8 s.op).1.name=true∧nameOk s.name=false):=by simp at h1;grind
 simp-dsimp[go_sem,hN];have tail:¬((qa8 s.op).1.a=true∧chkE s.a 1≠0)→¬((qa8 s.op).1.b=true∧chkE s.b 1≠0)→∀x:Int,x=(if 12<d then 2 else 0)→x=qbo s d:=by
  intro g1 g2 x hx;rw[qbo,if_neg h0',if_neg h1',if_neg g1,if_neg g2,hx]
 have tailb:¬((qa8 s.op).1.a=true∧chkE s.a 1≠0)→((qa8 s.op).1.b=true∧chkE s.b 1≠0)→chkE s.b 1=qbo s d:=by
  intro g1 g2;rw[qbo,if_neg h0',if_neg h1',if_neg g1,if_pos g2]
 refine cnd (fun h2=>?_) (fun h2=>?_)
 ·simp-dsimp[go_sem,hN];refine qaa (qej s.a) ?_;simp-dsimp[go_sem,hN];refine cnd ?_ ?_<;>intro h3<;>simp at h3
  ·simp-dsimp[go_sem,hN];rw[qbo,if_neg h0',if_neg h1',if_pos ⟨h2,h3⟩]
  simp-dsimp[go_sem,hN];refine cnd (fun h4=>?_) (fun h4=>?_)
  ·simp-dsimp[go_sem,hN];refine qaa (qej s.b) ?_;simp-dsimp[go_sem,hN];refine cnd ?_ ?_<;>intro h5<;>simp at h5
   ·simp-dsimp[go_sem,hN];exact tailb (by grind) ⟨h4,h5⟩
   simp-dsimp[go_sem,hN];refine cnd ?_ ?_<;>intro h6<;>simp at h6<;>simp-dsimp[go_sem,hN]<;>refine tail (by grind) (by grind) _ (by rw[eq_comm];first|exact if_pos h6|exact if_neg (by omega))
  ·simp-dsimp[go_sem,hN];refine cnd ?_ ?_<;>intro h6<;>simp at h6<;>simp-dsimp[go_sem,hN]<;>refine tail (by grind) (by grind) _ (by rw[eq_comm];first|exact if_pos h6|exact if_neg (by omega))
 ·simp-dsimp[go_sem,hN];refine cnd (fun h4=>?_) (fun h4=>?_)
  ·simp-dsimp[go_sem,hN];refine qaa (qej s.b) ?_;simp-dsimp[go_sem,hN];refine cnd ?_ ?_<;>intro h5<;>simp at h5
   ·simp-dsimp[go_sem,hN];exact tailb (by grind) ⟨h4,h5⟩
   simp-dsimp[go_sem,hN];refine cnd ?_ ?_<;>intro h6<;>simp at h6<;>simp-dsimp[go_sem,hN]<;>refine tail (by grind) (by grind) _ (by rw[eq_comm];first|exact if_pos h6|exact if_neg (by omega))
  ·simp-dsimp[go_sem,hN];refine cnd ?_ ?_<;>intro h6<;>simp at h6<;>simp-dsimp[go_sem,hN]<;>refine tail (by grind) (by grind) _ (by rw[eq_comm];first|exact if_pos h6|exact if_neg (by omega))
theorem c_ast_params1(x:Param)(h:qab)(i:Nat)(p:Param)(hi:h[i]?=some (.cells p.c)):ACalls Tryz.prog 234 [.agg x.c,.ptr i 0] h fun r h'=>r=.ret (Bo (decide (x.name=p.name)))∧h'=h:=by
 refine qaz Tryz.func234 Tryz.ntmps234 rfl (by kernel_rfl) rfl fun E hN hh hu hb hb' hua=>?_;have hi':i<h.length:=(List.getElem?_eq_some_iff.1 hi).1;have a1:∀l,(h++l)[i]?=some (.cells p.c):=fun l=>by rw[List.getElem?_append_left hi'];exact hi
 simp-dsimp[go_sem,hN,a1,hu];exact⟨_,.refl _,h,by simp[go_sem],by simp[go_sem],by simp,by simp[hu,go_sem],rfl,rfl⟩
theorem c_IndexFunc_Param(l:List Param)(f:FuncId)(caps:List AV)(q:Param→Bool)(h:qab)(hcn:qbi h caps=caps)(hp:∀x:Param,ACalls Tryz.prog f ([.agg x.c]++caps) h fun r h'=>r=.ret (Bo (q x))∧h'=h) :
  ACalls Tryz.prog 267 [.slice (l.map Param.c),.fn (.func f) [] caps] h fun r h'=>r=.ret (I (idxOf q l))∧h'=h:=by
 refine qaz Tryz.func267 Tryz.ntmps267 rfl (by kernel_rfl) rfl fun E hN hh hu hb hb' hua=>?_;simp[go_sem]at hb;simp-dsimp[go_sem,hN];refine qam l.length (fun n=>qed q n (l.drop n)=idxOf q l) (fun n=>⟨[(0,.slice (l.map Param.c)),(1,.fn (.func f) [] caps),(7,I l.length),(8,I n)],h⟩) (by simp[idxOf]) (Wk.mk (by simp[hh]) (by simp) (by simp[hu]) (by simp[go_sem];simpa[go_sem]using hua)) ?_;intro n hn hI;have hw:=qa2 hn hb.1;simp-dsimp[go_sem,hN];refine cnd ?_ ?_<;>intro hc<;>simp at hc
 ·rw[qaf hc,qed]at hI;simp-dsimp[go_sem,hN,hc,hcn];refine qaj (hp l[n]) ?_;rintro r h' ⟨rfl,rfl⟩;simp-dsimp[go_sem,hN];refine cnd ?_ ?_<;>intro hg<;>try simp at hg
  ·simp-dsimp[go_sem,hN];rw[if_pos hg]at hI;rw[hI];exact⟨_,.refl _,h',by simp[go_sem],by simp[go_sem],by simp,by simp[hu,go_sem],rfl,rfl⟩
  ·simp-dsimp[go_sem,hN,hw];exact⟨hc,by simpa[hg]using hI,Wk.mk (by simp[hh]) (by simp) (by simp[hu]) (by simp[go_sem];simpa[go_sem]using hua)⟩
 ·rw[List.drop_eq_nil_of_le (by omega),qed]at hI;simp-dsimp[go_sem,hN,←hI];exact⟨_,.refl _,h,by simp[go_sem],by simp[go_sem],by simp,by simp[hu,go_sem],rfl,rfl⟩
theorem c_ContainsFunc_Param(l:List Param)(f:FuncId)(caps:List AV)(q:Param→Bool)(h:qab)(hcn:qbi h caps=caps)(hp:∀x:Param,ACalls Tryz.prog f ([.agg x.c]++caps) h fun r h'=>r=.ret (Bo (q x))∧h'=h) :
  ACalls Tryz.prog 233 [.slice (l.map Param.c),.fn (.func f) [] caps] h fun r h'=>r=.ret (Bo (anyL q l))∧h'=h:=by
 refine qaz Tryz.func233 Tryz.ntmps233 rfl (by kernel_rfl) rfl fun E hN hh hu hb hb' hua=>?_;simp-dsimp[go_sem,hN];refine qaj (c_IndexFunc_Param l f caps q h hcn hp) ?_;rintro r h' ⟨rfl,rfl⟩;simp-dsimp[go_sem,hN,idxOf_nonneg];exact⟨_,.refl _,h',by simp[go_sem],by simp[go_sem],by simp,by simp[hu,go_sem],rfl,rfl⟩
theorem c_ast_params(l:List Param):APure Tryz.prog 192 [.slice (l.map Param.c)] (I (paramsE l)):=by
 refine qak Tryz.func192 Tryz.ntmps192 rfl (by kernel_rfl) rfl rfl fun E h hN hh hu hb=>?_;unfold paramsE;simp[go_sem]at hb;simp-dsimp[go_sem,hN];refine cnd ?_ ?_<;>intro h0<;>simp at h0
 ·simp-dsimp[go_sem,hN];omega
 simp-dsimp[go_sem,hN];rw[if_neg (by omega)];refine qam l.length (fun n=>qc4 (l.take n) (l.drop n)=qc4 [] l) (fun n=>⟨[(0,.slice (l.map Param.c)),(8,.slice (l.map Param.c)),(9,I l.length),(10,I n)],h⟩) (by simp) wkA ?_;intro n hn hI;have hw:=qa2 hn hb.1;simp-dsimp[go_sem,hN];refine cnd ?_ ?_<;>intro hc<;>simp at hc
 ·rw[qaf hc,qc4]at hI;simp-dsimp[go_sem,hN,hc];refine qaa (c_lexer_IsName _) ?_;simp-dsimp[go_sem,hN];refine cnd ?_ ?_<;>intro h1<;>simp at h1
  ·simp-dsimp[go_sem,hN];simpa[h1]using hI
  simp-dsimp[go_sem,hN];refine cnd ?_ ?_<;>intro h2<;>simp at h2
  ·simp-dsimp[go_sem,hN];simpa[h1,h2]using hI
  have h2':¬(l[n].ty<1∨3<l[n].ty):=by omega
  simp-dsimp[go_sem,hN,hn];have ecl:(List.map Param.c l).take n=(l.take n).map Param.c:=by simp
  rw[ecl];refine qaj (c_ContainsFunc_Param (l.take n) _ _ (fun x=>decide (x.name=l[n].name)) _ (by simp[qbi,AV.norm]) (fun x=>c_ast_params1 x _ _ l[n] (by simp[Param.c]))) ?_;rintro r h' ⟨rfl,rfl⟩;simp-dsimp[go_sem,hN];refine cnd ?_ ?_<;>intro h3<;>try simp at h3
  ·simp-dsimp[go_sem,hN];simpa[h1,h2',h3]using hI
  ·simp-dsimp[go_sem,hN,hw];refine⟨hc,?_,wkA⟩;rw[List.take_succ_eq_append_getElem hc];simpa[h1,h2',h3]using hI
 ·rw[List.drop_eq_nil_of_le (by omega),qc4]at hI;simp-dsimp[go_sem,hN,←hI]
end Go.Proofs.YtilhejdbiionhaaGreatDoor

set_option maxRecDepth 4000
namespace Go.Proofs.YtilhejdbiionhaaGreatDoor
open Go Go.Abs Go.Cw
variable {σ:Type} {K:σ→Nat} {M:Nat} {w:Nat} {fs fr:FuncId} {cs cr:List AV} {H:Nat→σ→qab} {fS:σ→St→Nat→σ} {fR:σ→Ex→σ} {n0:Nat}
theorem c_walker_expr{H:Nat→σ→qab}{n0:Nat}(W:WH Tryz.prog w fs fr cs cr H fS fR n0 K M)(e:Ex)(left:Nat)(s:σ)(hl:left≤1000) :
  ACalls Tryz.prog 271 [.ptr w 0,.agg e.x] (H left s) fun r h'=>r=.ret (.tuple [])∧h'=H (exW e left) s:=by
 refine qaz Tryz.func271 Tryz.ntmps271 rfl (by kernel_rfl) rfl fun E hN hh hu hb hb' hua=>?_;simp[go_sem]at hb;simp-dsimp[go_sem,hN,W.w',W.look,W.len];refine cnd ?_ ?_<;>intro h0<;>simp at h0
 ·subst h0;simp-dsimp[go_sem,hN];rw[exW_eq,if_pos rfl];exact⟨_,.refl _,H 0 s,rfl,by simp,by simp,hu,rfl,rfl⟩
 have hw1:IntKind.i64.wrap ((left:Int) - 1)=((left - 1:Nat):Int):=by rw[wrapI (by omega) (by omega)];omega
 simp-dsimp[go_sem,hN,W.w',hw1,W.set',W.loc0];refine qap (α:=Nat) e.args.length (fun n m=>exWL (e.args.drop n) m=exW e left∧m≤left) (fun n m=>⟨[(0,.ptr w 0),(19,.slice (e.args.map Ex.c)),(20,I e.args.length),(21,I n)],H m s++[.cells e.x]⟩) (left - 1) ⟨by rw[exW_eq,if_neg h0];rfl,by omega⟩ (Wk.mk (by simp[hh,W.len]) (by simp[go_sem]) ((W.ext [.cells e.x] (by simp[go_sem])).und' _ _) (by have:=W.lt;simp[go_sem,W.len];omega)) ?_;intro n m hn ⟨hI,hm⟩;have hw:=qa2 hn hb.2.1;simp-dsimp[go_sem,hN];refine cnd ?_ ?_<;>intro hc<;>simp at hc
 ·rw[qaf hc,exWL]at hI;have hlt:SizeOf.sizeOf e.args[n]<SizeOf.sizeOf e:=Ex.arg_lt (List.getElem_mem hc);simp-dsimp[go_sem,hN,hc,W.loc0,W.loc1,W.set0,W.set1,W.len];refine qaj (c_walker_expr (W.ext [.cells e.x,.cells e.args[n].x] (by simp[go_sem])) e.args[n] m s (by omega)) ?_;rintro r h' ⟨rfl,rfl⟩;simp-dsimp[go_sem,hN,hw];refine⟨hc,_,⟨hI,?_⟩,?_⟩
  ·have:=exW_le e.args[n] m;omega
  ·exact(Wk.mk (by simp[hh,W.len]) (by simp[go_sem]) ((W.ext [.cells e.x] (by simp[go_sem])).und' _ _) (by have:=W.lt;simp[go_sem,W.len];omega))
 ·rw[List.drop_eq_nil_of_le (by omega),exWL]at hI;simp-dsimp[go_sem,hN];subst hI;exact⟨_,.refl _,H (exW e left) s,rfl,by simp,by simp[W.len],W.und' _ _,rfl,rfl⟩
termination_by SizeOf.sizeOf e
theorem c_walker_first{H:Nat→σ→qab}{n0:Nat}(W:WH Tryz.prog w fs fr cs cr H fS fR n0 K M)(e:Ex)(left:Nat)(s:σ)(hl:left≤1000)(hK:K s+left≤M) :
  ACalls Tryz.prog 239 [.ptr w 0,.agg e.x] (H left s) fun r h'=>r=.ret (.tuple [])∧h'=H (qbz fR e (left,s)).1 (qbz fR e (left,s)).2:=by
 refine qaz Tryz.func239 Tryz.ntmps239 rfl (by kernel_rfl) rfl fun E hN hh hu hb hb' hua=>?_;simp[go_sem]at hb;simp-dsimp[go_sem,hN,W.w',W.look,W.len,W.loc0];refine qae (c_ast_absent e) (by simp) ?_;simp-dsimp[go_sem,hN];refine cnd ?_ ?_<;>intro h0<;>simp at h0
 ·simp-dsimp[go_sem,hN];rw[qbz,if_pos (by simpa using h0)];exact⟨_,.refl _,H left s,rfl,by simp,by simp,hu,rfl,rfl⟩
 simp-dsimp[go_sem,hN];refine qai 5 mixed (by kernel_rfl) (by kernel_rfl) ?_;simp-dsimp[go_sem,hN,W.w',W.loc0,W.ncr];refine qaj (W.root left s [.cells e.x] e hK h0.1) ?_;rintro r h' ⟨rfl,rfl⟩;simp-dsimp[go_sem,hN,W.loc0];refine qaj (c_walker_expr (W.ext [.cells e.x] (by simp[go_sem])) e left (fR s e) hl) ?_;rintro r h' ⟨rfl,rfl⟩;simp-dsimp[go_sem,hN];rw[qbz,if_neg (by simp only[not_or];exact⟨h0.1,by simp[h0.2]⟩)];exact⟨_,.refl _,H (exW e left) (fR s e),rfl,by simp,by simp[W.len],W.und' _ _,rfl,rfl⟩
theorem c_walker_block{H:Nat→σ→qab}{n0:Nat}(W:WH Tryz.prog w fs fr cs cr H fS fR n0 K M)(l:List St)(d left:Nat)(s:σ)(hl:d+left≤1000)(hK:K s+left≤M) :
  ACalls Tryz.prog 196 [.ptr w 0,.slice (l.map St.c),I d] (H left s) fun r h'=>r=.ret (.tuple [])∧h'=H (blkW fS fR l d (left,s)).1 (blkW fS fR l d (left,s)).2:=by
 refine qaz Tryz.func196 Tryz.ntmps196 rfl (by kernel_rfl) rfl fun E hN hh hu hb hb' hua=>?_;simp[go_sem]at hb;simp-dsimp[go_sem,hN,W.w',W.look,W.len,W.loc0];refine qap (α:=Nat×σ) l.length (fun n x=>blkW fS fR (l.drop n) d x=blkW fS fR l d (left,s)∧x.1≤left∧K x.2+x.1≤M) (fun n x=>⟨[(0,.ptr w 0),(2,I d),(8,.slice (l.map St.c)),(9,I l.length),(10,I n)],H x.1 x.2⟩) (left,s) ⟨by simp,by simp,hK⟩ (Wk.mk (by simp[hh,W.len]) (by simp[go_sem]) (W.und' _ _) (by have:=W.lt;simp[go_sem,W.len];omega)) ?_;rintro n ⟨m,s⟩ hn ⟨hI,hm,hk⟩;simp only at hm hk;have hw:=qa2 hn hb.1;simp-dsimp[go_sem,hN];refine cnd ?_ ?_<;>intro hc<;>simp at hc
 ·rw[qaf hc,blkW]at hI;have hlt:SizeOf.sizeOf l[n]<SizeOf.sizeOf l:=List.sizeOf_lt_of_mem (List.getElem_mem hc);simp-dsimp[go_sem,hN,hc,W.loc0,W.set0,W.len,W.w'];refine cnd ?_ ?_<;>intro h0<;>simp at h0
  ·subst h0;simp-dsimp[go_sem,hN];rw[if_pos rfl]at hI;rw[←hI];exact⟨_,.refl _,H 0 s,rfl,by simp,by simp[W.len],W.und' _ _,rfl,rfl⟩
  have hw1:IntKind.i64.wrap ((m:Int) - 1)=((m - 1:Nat):Int):=by rw[wrapI (by omega) (by omega)];omega
  rw[if_neg h0]at hI;simp-dsimp[go_sem,hN,hw1,W.loc0,W.w',W.set'];refine qai 6 mixed (by kernel_rfl) (by kernel_rfl) ?_;have X:=W.ext [.cells l[n].x] (by simp[go_sem]);simp-dsimp[go_sem,hN,W.w',W.loc0,W.ncs];refine qaj (W.stmt (m - 1) s [.cells l[n].x] l[n] d (by omega)) ?_;rintro r h' ⟨rfl,rfl⟩;have k0:=W.hS s l[n] d;simp-dsimp[go_sem,hN,W.w',W.loc0];refine qaj (c_walker_first X l[n].a (m - 1) (fS s l[n] d) (by omega) (by omega)) ?_;rintro r h' ⟨rfl,rfl⟩;have g1:=firstW_le fR l[n].a (m - 1,fS s l[n] d);have k1:=firstW_K fR K W.hR l[n].a (m - 1,fS s l[n] d);simp only at g1 k1;generalize hx1:qbz fR l[n].a (m - 1,fS s l[n] d)=x1 at g1 k1⊢;simp-dsimp[go_sem,hN,W.w',W.loc0];refine qaj (c_walker_first X l[n].b x1.1 x1.2 (by omega) (by omega)) ?_;rintro r h' ⟨rfl,rfl⟩;have g2:=firstW_le fR l[n].b x1;have k2:=firstW_K fR K W.hR l[n].b x1;generalize hx2:qbz fR l[n].b x1=x2 at g2 k2⊢;have hw2:IntKind.i64.wrap ((d:Int)+1)=((d+1:Nat):Int):=by rw[wrapI (by omega) (by omega)];omega
  have hb1:=St.body_le l[n];have hb2:=St.els_le l[n];simp-dsimp[go_sem,hN,W.w',W.loc0,hw2];refine qaj (c_walker_block X l[n].body (d+1) x2.1 x2.2 (by omega) (by omega)) ?_;rintro r h' ⟨rfl,rfl⟩;have g3:=blkW_le fS fR l[n].body (d+1) x2;have k3:=blkW_K fS fR K W.hS W.hR l[n].body (d+1) x2;generalize hx3:blkW fS fR l[n].body (d+1) x2=x3 at g3 k3⊢;simp-dsimp[go_sem,hN,W.w',W.loc0,hw2];refine qaj (c_walker_block X l[n].els (d+1) x3.1 x3.2 (by omega) (by omega)) ?_;rintro r h' ⟨rfl,rfl⟩;have g4:=blkW_le fS fR l[n].els (d+1) x3;have k4:=blkW_K fS fR K W.hS W.hR l[n].els (d+1) x3;simp-dsimp[go_sem,hN,hw];refine⟨hc,(blkW fS fR l[n].els (d+1) x3).1,(blkW fS fR l[n].els (d+1) x3).2,⟨?_,?_⟩,(Wk.mk (by simp[hh,W.len]) (by simp[go_sem]) (W.und' _ _) (by have:=W.lt;simp[go_sem,W.len];omega))⟩
  ·rw[←hI,stW_eq,hx1,hx2,hx3]
  ·exact⟨by omega,by omega⟩
 ·rw[List.drop_eq_nil_of_le (by omega),blkW]at hI;simp-dsimp[go_sem,hN];rw[←hI];exact⟨_,.refl _,H m s,rfl,by simp,by simp[W.len],W.und' _ _,rfl,rfl⟩
termination_by SizeOf.sizeOf l
end Go.Proofs.YtilhejdbiionhaaGreatDoor

set_option maxRecDepth 4000
namespace Go.Proofs.YtilhejdbiionhaaGreatDoor
open Go Go.Abs Go.Cw
theorem c_ast_walk{σ:Type}{fs fr:FuncId}{cs cr:List AV}{H:σ→qab}{fS:σ→St→Nat→σ}{fR:σ→Ex→σ}{n0:Nat}{K:σ→Nat}{M:Nat}(B:CB Tryz.prog fs fr cs cr H fS fR n0 K M)(p:Proc)(s:σ)(hK:K s+401≤M) :
  ACalls Tryz.prog 144 [.agg p.c,.fn (.func fs) [] cs,.fn (.func fr) [] cr] (H s) fun r h'=>r=.ret (.val (.int .i64 (IntKind.i64.wrap (401 - ((blkW fS fR p.body 1 (401,s)).1:Int)))))∧h'=H (blkW fS fR p.body 1 (401,s)).2:=by
 refine qaz Tryz.func144 Tryz.ntmps144 rfl (by kernel_rfl) rfl fun E hN hh hu hb hb' hua=>?_;simp[go_sem]at hb;have X:=B.walk (.cells p.c) (by simp[go_sem]);have g0:∀(s:σ) (x:AObj) (l:qab),(H s++x::l)[n0]?=some x:=fun s x l=>by
  rw[List.getElem?_append_right (by rw[B.len];omega),B.len,Nat.sub_self];rfl
 have g1:∀(s:σ) (x y:AObj) (l:qab),(H s++x::y::l)[n0+1]?=some y:=fun s x y l=>by
  rw[List.getElem?_append_right (by rw[B.len];omega),B.len,show n0+1 - n0=1 by omega];rfl
 simp-dsimp[go_sem,hN,B.len,g0,g1];refine qaj (c_walker_block X p.body 1 401 s (by omega) hK) ?_;rintro r h' ⟨rfl,rfl⟩;simp-dsimp[go_sem,hN,g1];exact⟨_,.refl _,H (blkW fS fR p.body 1 (401,s)).2,rfl,by simp,by simp[B.len],by rw[B.len];exact B.und _,rfl,rfl⟩
theorem c_ast_noStmt(t:St)(d:Int)(h:qab):ACalls Tryz.prog 209 [.agg t.x,I d] h fun r h'=>r=.ret (.tuple [])∧h'=h:=by
 refine qaz Tryz.func209 Tryz.ntmps209 rfl (by kernel_rfl) rfl fun E hN hh hu hb hb' hua=>?_;simp-dsimp[go_sem,hN];exact⟨_,.refl _,h,by simp[go_sem],by simp[go_sem],by simp,by simp[hu,go_sem],rfl,rfl⟩
theorem c_ast_noRoot(e:Ex)(h:qab):ACalls Tryz.prog 146 [.agg e.x] h fun r h'=>r=.ret (.tuple [])∧h'=h:=by
 refine qaz Tryz.func146 Tryz.ntmps146 rfl (by kernel_rfl) rfl fun E hN hh hu hb hb' hua=>?_;simp-dsimp[go_sem,hN];exact⟨_,.refl _,h,by simp[go_sem],by simp[go_sem],by simp,by simp[hu,go_sem],rfl,rfl⟩
theorem c_ast_Validate1(t:St)(d:Nat)(h:qab)(i:Nat)(x:Int)(hi:h[i]?=some (.cells [I x])):ACalls Tryz.prog 193 [.agg t.x,I d,.ptr i 0] h fun r h'=>r=.ret (.tuple [])∧h'=h.set i (.cells [I (valS x t d)]):=by
 refine qaz Tryz.func193 Tryz.ntmps193 rfl (by kernel_rfl) rfl fun E hN hh hu hb hb' hua=>?_;simp[go_sem]at hb;have hi':i<h.length:=(List.getElem?_eq_some_iff.1 hi).1;have a1:∀l,(h++l)[i]?=some (.cells [I x]):=fun l=>by rw[List.getElem?_append_left hi'];exact hi
 have a2:∀l (y:AObj),(h++l).set i y=h.set i y++l:=fun l y=>List.set_append_left _ _ hi';have hus:∀y:Int,hUnder h.length (h.set i (.cells [I y]))=true:=fun y=>qcg hu (by simp[AObj.under,qao,AV.under]);have hxx:h.set i (.cells [I x])=h:=by
  apply List.ext_getElem?;intro j;by_cases hj:i=j
  ·subst hj;rw[List.getElem?_set_self hi',hi]
  ·rw[List.getElem?_set_ne hj]
 simp-dsimp[go_sem,hN,a1];refine cnd ?_ ?_<;>intro h0<;>simp at h0
 ·simp-dsimp[go_sem,hN];refine qaa (c_ast_statement t d) ?_;simp-dsimp[go_sem,hN,a1,a2];rw[valS,if_pos h0];exact⟨_,.refl _,_,rfl,hwk.app0 _,by simp,by simpa using hus _,rfl,rfl⟩
 ·simp-dsimp[go_sem,hN];rw[valS,if_neg h0,hxx];exact⟨_,.refl _,_,rfl,hwk.app0 _,by simp,hu,rfl,rfl⟩
theorem c_ast_Validate(p:Proc):APure Tryz.prog 141 [.agg p.c] (I (qcn p)):=by
 refine qak Tryz.func141 Tryz.ntmps141 rfl (by kernel_rfl) rfl rfl fun E h hN hh hu hb=>?_;simp[go_sem]at hb;simp-dsimp[go_sem,hN];refine qaa (c_lexer_IsName _) ?_;simp-dsimp[go_sem,hN];refine cnd ?_ ?_<;>intro h0<;>simp at h0
 ·simp-dsimp[go_sem,hN];rw[qcn,if_pos h0]
 simp-dsimp[go_sem,hN];refine qaa (c_ast_params _) ?_;simp-dsimp[go_sem,hN];refine cnd (fun h1=>?_) (fun h1=>?_)
 ·simp-dsimp[go_sem,hN];simp only[Bool.not_eq_true',decide_eq_false_iff_not]at h1;rw[qcn,if_neg (by simp[h0]),if_pos h1]
 simp only[Bool.not_eq_false',decide_eq_true_eq]at h1;simp-dsimp[go_sem,hN,h1];have B:CB Tryz.prog 193 146 [.ptr (h.length+1) 0] [] (fun x:Int=>h++[.cells p.c,.cells [I x]]) valS qb2 (h.length+2) (fun _=>0) 401:={
  hS:=fun _ _ _=>by simp
  hR:=fun _ _=>by simp
  len:=fun x=>by simp
  und:=fun x=>by rw[qan hu];simp[go_sem]
  ucs:=by simp[qao,AV.under]
  ucr:=rfl
  ncs:=fun h=>rfl
  ncr:=fun h=>rfl
  stmt:=fun x L t d _=>by
   have:=c_ast_Validate1 t d ((h++[.cells p.c,.cells [I x]])++L) (h.length+1) x (by simp);simpa using this
  root:=fun x L e _=>by
   have:=c_ast_noRoot e ((h++[.cells p.c,.cells [I x]])++L);simpa[qb2]using this }
 refine qaj (c_ast_walk B p 0 (by omega)) ?_;rintro r h' ⟨rfl,rfl⟩;simp-dsimp[go_sem,hN];have hle:=blkW_le valS qb2 p.body 1 (401,(0:Int));simp only at hle;rw[wrapI (by omega) (by omega)];refine cnd ?_ ?_<;>intro h2<;>simp at h2
 ·simp-dsimp[go_sem,hN];rw[qcn,if_neg (by simp[h0]),if_neg (by simp[h1])];simp only;rw[if_pos ⟨h2.1,by omega⟩]
 ·simp-dsimp[go_sem,hN];rw[qcn,if_neg (by simp[h0]),if_neg (by simp[h1])];simp only;rw[if_neg (by omega)]
end Go.Proofs.YtilhejdbiionhaaGreatDoor
