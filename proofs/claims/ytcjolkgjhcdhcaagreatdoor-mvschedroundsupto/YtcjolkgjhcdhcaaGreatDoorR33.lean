/- Part 33 of a proof: W8, W9, W10, W11, W12 -/
import Derived.Shelf.Small.Strs
import Derived.Test.YtcjolkgjhcdhcaaGreatDoorR13
import Derived.Test.YtcjolkgjhcdhcaaGreatDoorR20
import Derived.Test.YtcjolkgjhcdhcaaGreatDoorR32
set_option linter.all false

set_option maxRecDepth 4000
namespace Go.Proofs.YtcjolkgjhcdhcaaGreatDoor
open Go Go.Abs Go.Cw
theorem c_ast_walk {σ:Type} {fs fr:FuncId} {cs cr:List AV} {H:σ→qab} {fS:σ→St→Nat→σ} {fR:σ→Ex→σ} {n0:Nat} {K:σ→Nat} {M:Nat} (B:CB Tryz.prog fs fr cs cr H fS fR n0 K M) (p:Proc) (s:σ) (hK:K s+401≤M) :
  ACalls Tryz.prog 184 [.agg p.c,.fn (.func fs) [] cs,.fn (.func fr) [] cr] (H s) fun r h'=>r=.ret (.val (.int .i64 (IntKind.i64.wrap (401 - ((blkW fS fR p.body 1 (401,s)).1:Int)))))∧h'=H (blkW fS fR p.body 1 (401,s)).2:=by
 refine qav Tryz.func184 Tryz.ntmps184 rfl (by kernel_rfl) rfl fun E hN hh hu hb hb' hua=>?_;simp [go_sem] at hb;have X:=B.walk (.cells p.c) (by simp [go_sem]);have g0:∀ (s:σ) (x:AObj) (l:qab),(H s++x::l)[n0]?=some x:=fun s x l=>by
  rw [List.getElem?_append_right (by rw [B.len];omega),B.len,Nat.sub_self];rfl
 have g1:∀ (s:σ) (x y:AObj) (l:qab),(H s++x::y::l)[n0+1]?=some y:=fun s x y l=>by
  rw [List.getElem?_append_right (by rw [B.len];omega),B.len,show n0+1 - n0=1 by omega];rfl
 simp -dsimp [go_sem,hN,B.len,g0,g1];refine qan (c_walker_block X p.body 1 401 s (by omega) hK) ?_;rintro r h' ⟨rfl,rfl⟩;simp -dsimp [go_sem,hN,g1];exact ⟨_,.refl _,H (blkW fS fR p.body 1 (401,s)).2,rfl,by simp,by simp [B.len],by rw [B.len];exact B.und _,rfl,rfl⟩
theorem c_ast_noStmt (t:St) (d:Int) (h:qab):ACalls Tryz.prog 190 [.agg t.x,I d] h fun r h'=>r=.ret (.tuple [])∧h'=h:=by
 refine qav Tryz.func190 Tryz.ntmps190 rfl (by kernel_rfl) rfl fun E hN hh hu hb hb' hua=>?_;simp -dsimp [go_sem,hN];exact ⟨_,.refl _,h,by simp [go_sem],by simp [go_sem],by simp,by simp [hu,go_sem],rfl,rfl⟩
theorem c_ast_noRoot (e:Ex) (h:qab):ACalls Tryz.prog 187 [.agg e.x] h fun r h'=>r=.ret (.tuple [])∧h'=h:=by
 refine qav Tryz.func187 Tryz.ntmps187 rfl (by kernel_rfl) rfl fun E hN hh hu hb hb' hua=>?_;simp -dsimp [go_sem,hN];exact ⟨_,.refl _,h,by simp [go_sem],by simp [go_sem],by simp,by simp [hu,go_sem],rfl,rfl⟩
theorem c_ast_Validate1 (t:St) (d:Nat) (h:qab) (i:Nat) (x:Int) (hi:h[i]?=some (.cells [I x])):ACalls Tryz.prog 185 [.agg t.x,I d,.ptr i 0] h fun r h'=>r=.ret (.tuple [])∧h'=h.set i (.cells [I (valS x t d)]):=by
 refine qav Tryz.func185 Tryz.ntmps185 rfl (by kernel_rfl) rfl fun E hN hh hu hb hb' hua=>?_;simp [go_sem] at hb;have hi':i<h.length:=(List.getElem?_eq_some_iff.1 hi).1;have a1:∀ l,(h++l)[i]?=some (.cells [I x]):=fun l=>by rw [List.getElem?_append_left hi'];exact hi
 have a2:∀ l (y:AObj),(h++l).set i y=h.set i y++l:=fun l y=>List.set_append_left _ _ hi';have hus:∀ y:Int,hUnder h.length (h.set i (.cells [I y]))=true:=fun y=>qcw hu (by simp [AObj.under,qaw,AV.under]);have hxx:h.set i (.cells [I x])=h:=by
  apply List.ext_getElem?;intro j;by_cases hj:i=j
  · subst hj;rw [List.getElem?_set_self hi',hi]
  · rw [List.getElem?_set_ne hj]
 simp -dsimp [go_sem,hN,a1];refine cnd ?_ ?_<;>intro h0<;>simp at h0
 ·
  simp -dsimp [go_sem,hN];refine qaa (c_ast_statement t d) ?_;simp -dsimp [go_sem,hN,a1,a2];rw [valS,if_pos h0];exact ⟨_,.refl _,_,rfl,hwk.app0 _,by simp,by simpa using hus _,rfl,rfl⟩
 ·
  simp -dsimp [go_sem,hN];rw [valS,if_neg h0,hxx];exact ⟨_,.refl _,_,rfl,hwk.app0 _,by simp,hu,rfl,rfl⟩
theorem c_ast_Validate (p:Proc):APure Tryz.prog 153 [.agg p.c] (I (qck p)):=by
 refine qaj Tryz.func153 Tryz.ntmps153 rfl (by kernel_rfl) rfl rfl fun E h hN hh hu hb=>?_;simp [go_sem] at hb;simp -dsimp [go_sem,hN];refine qaa (c_lexer_IsName _) ?_;simp -dsimp [go_sem,hN];refine cnd ?_ ?_<;>intro h0<;>simp at h0
 ·
  simp -dsimp [go_sem,hN];rw [qck,if_pos h0]
 simp -dsimp [go_sem,hN];refine qaa (c_ast_params _) ?_;simp -dsimp [go_sem,hN];refine cnd (fun h1=>?_) (fun h1=>?_)
 ·
  simp -dsimp [go_sem,hN];simp only [Bool.not_eq_true',decide_eq_false_iff_not] at h1;rw [qck,if_neg (by simp [h0]),if_pos h1]
 simp only [Bool.not_eq_false',decide_eq_true_eq] at h1;simp -dsimp [go_sem,hN,h1];have B:CB Tryz.prog 185 187 [.ptr (h.length+1) 0] [] (fun x:Int=>h++[.cells p.c,.cells [I x]]) valS qby (h.length+2) (fun _=>0) 401:={
  hS:=fun _ _ _=>by simp
  hR:=fun _ _=>by simp
  len:=fun x=>by simp
  und:=fun x=>by rw [qag hu];simp [go_sem]
  ucs:=by simp [qaw,AV.under]
  ucr:=rfl
  ncs:=fun h=>rfl
  ncr:=fun h=>rfl
  stmt:=fun x L t d _=>by
   have:=c_ast_Validate1 t d ((h++[.cells p.c,.cells [I x]])++L) (h.length+1) x (by simp);simpa using this
  root:=fun x L e _=>by
   have:=c_ast_noRoot e ((h++[.cells p.c,.cells [I x]])++L);simpa [qby] using this }
 refine qan (c_ast_walk B p 0 (by omega)) ?_;rintro r h' ⟨rfl,rfl⟩;simp -dsimp [go_sem,hN];have hle:=blkW_le valS qby p.body 1 (401,(0:Int));simp only at hle;rw [wrapI (by omega) (by omega)];refine cnd ?_ ?_<;>intro h2<;>simp at h2
 ·
  simp -dsimp [go_sem,hN];rw [qck,if_neg (by simp [h0]),if_neg (by simp [h1])];simp only;rw [if_pos ⟨h2.1,by omega⟩]
 ·
  simp -dsimp [go_sem,hN];rw [qck,if_neg (by simp [h0]),if_neg (by simp [h1])];simp only;rw [if_neg (by omega)]
end Go.Proofs.YtcjolkgjhcdhcaaGreatDoor

set_option maxRecDepth 4000
namespace Go.Proofs.YtcjolkgjhcdhcaaGreatDoor
open Go Go.Abs Go.Cw
theorem c_ast_Names1 (t:St) (d:Nat) (h:qab) (p i:Nat) (l:List qac) (hp:h[p]?=some (.cells [.own i l.length])) (hi:h[i]?=some (.arr 9 1 (l.map qbd))) (hl:l.length+1≤68719476736) :
  ACalls Tryz.prog 188 [.agg t.x,I d,.ptr p 0] h fun r h'=>r=.ret (.tuple [])∧h'=(h.set i (.arr 9 1 ((nameS l t d).map qbd))).set p (.cells [.own i (nameS l t d).length]):=by
 refine qav Tryz.func188 Tryz.ntmps188 rfl (by kernel_rfl) rfl fun E hN hh hu hb hb' hua=>?_;simp [go_sem] at hb;have hp':p<h.length:=(List.getElem?_eq_some_iff.1 hp).1;have hi':i<h.length:=(List.getElem?_eq_some_iff.1 hi).1;have hpi:p≠i:=by rintro rfl;rw [hp] at hi;cases hi
 have a1:∀ l:qab,(h++l)[p]?=h[p]?:=fun l=>List.getElem?_append_left hp';have a2:∀ l:qab,(h++l)[i]?=h[i]?:=fun l=>List.getElem?_append_left hi';have a3:∀ (l:qab) (y:AObj),(h++l).set p y=h.set p y++l:=fun l y=>List.set_append_left _ _ hp';have a4:∀ (l:qab) (y:AObj),(h++l).set i y=h.set i y++l:=fun l y=>List.set_append_left _ _ hi';have a5:∀ (l:qab) (o y:AObj),(h.set i o++l).set p y=(h.set i o).set p y++l:=fun l o y=>List.set_append_left _ _ (by simpa using hp');have a6:∀ (l:qab) (o:AObj),(h.set i o++l)[p]?=h[p]?:=fun l o=>by rw [List.getElem?_append_left (by simpa using hp'),List.getElem?_set_ne (Ne.symm hpi)]
 have hus:∀ (r:List (List AV)) (n:Nat),hUnder h.length ((h.set i (.arr 9 1 r)).set p (.cells [.own i n]))=true:=fun r n=>qcw (qcw hu (by simp [AObj.under])) (by simp [AObj.under,qaw,AV.under,hi']);simp -dsimp [go_sem,hN,a1,hp];refine cnd ?_ ?_<;>intro h0<;>simp at h0
 ·
  simp -dsimp [go_sem,hN,a1,a2,a3,a4,a5,a6,hp,hi];refine ⟨by omega,?_⟩;have e:nameS l t d=l++[t.name]:=by rw [nameS,if_pos h0]
  exact ⟨_,.refl _,_,rfl,hwk.app0 _,by simp,by simpa using hus _ _,rfl,by rw [e];simp [qbd]⟩
 ·
  simp -dsimp [go_sem,hN];have e:nameS l t d=l:=by rw [nameS,if_neg (by omega)]
  rw [e,set_same hi,set_same hp];exact ⟨_,.refl _,_,rfl,hwk.app0 _,by simp,hu,rfl,rfl⟩
theorem c_ast_Names (p:Proc) (hlen:p.params.length≤34359738368):APure Tryz.prog 155 [.agg p.c] (.slice ((qd6 p).map qbd)):=by
 refine qaj Tryz.func155 Tryz.ntmps155 rfl (by kernel_rfl) rfl rfl fun E h hN hh hu hb=>?_;simp [go_sem] at hb;simp -dsimp [go_sem,hN];refine qas (α:=List qac) p.params.length (fun n o=>o++(p.params.drop n).map (·.name)=p.params.map (·.name)∧o.length≤n) (fun n o=>⟨[(1,.ptr h.length 0),(3,.ptr (h.length+1) 0),(7,.slice (p.params.map Param.c)),(8,I p.params.length),(9,I n)],h++[.cells p.c,.cells [.own (h.length+2) o.length],.arr 9 1 (o.map qbd)]⟩) [] (by simp) ((nilc_wk E _ (p:=h.length+1) (j:=0) (t:=9) (sz:=1) (xs:=[.nils]) (by simp) rfl).trans ?_) ?_
 ·
  simp;exact wkA
 intro n o hn ⟨hI,hol⟩;have hw:=qaq hn hb.2.1.1;simp -dsimp [go_sem,hN];refine cnd ?_ ?_<;>intro hc<;>simp at hc
 ·
  rw [qad hc,List.map_cons] at hI;simp -dsimp [go_sem,hN,hc,hw];exact ⟨by omega,o++[p.params[n].name],⟨by simpa using hI,by simp;omega⟩,wkA⟩
 rw [List.drop_eq_nil_of_le (by omega),List.map_nil,List.append_nil] at hI;simp -dsimp [go_sem,hN];have B:CB Tryz.prog 188 187 [.ptr (h.length+1) 0] [] (fun l:List qac=>h++[.cells p.c,.cells [.own (h.length+2) l.length],.arr 9 1 (l.map qbd)]) nameS qby (h.length+3) List.length 68719476735:={
  hS:=nameS_len
  hR:=fun s _=>by simp [qby]
  len:=fun x=>by simp
  und:=fun x=>by rw [qag hu];simp [go_sem]
  ucs:=by simp [qaw,AV.under]
  ucr:=rfl
  ncs:=fun h=>rfl
  ncr:=fun h=>rfl
  stmt:=fun l L t d hk=>by
   have:=c_ast_Names1 t d ((h++[.cells p.c,.cells [.own (h.length+2) l.length],.arr 9 1 (l.map qbd)])++L) (h.length+1) (h.length+2) l (by simp) (by simp) (by omega);simpa using this
  root:=fun x L e _=>by
   have:=c_ast_noRoot e ((h++[.cells p.c,.cells [.own (h.length+2) x.length],.arr 9 1 (x.map qbd)])++L);simpa [qby] using this }
 refine qan (c_ast_walk B p o (by omega)) ?_;rintro r h' ⟨rfl,rfl⟩;simp -dsimp [go_sem,hN];rw [qd6,← hI]
theorem c_ast_copied (e:Ex):APure Tryz.prog 192 [.agg e.x] (.agg e.x):=by
 refine qaj Tryz.func192 Tryz.ntmps192 rfl (by kernel_rfl) rfl rfl fun E h hN hh hu hb=>?_;simp [go_sem] at hb;simp -dsimp [go_sem,hN];refine qaf e.args.length (fun n=>True) (fun n=>⟨[(1,.ptr h.length 0),(2,.ptr (h.length+1) 0),(9,.slice (e.args.map Ex.c)),(10,I e.args.length),(11,I n)],h++[.cells [I e.op,I e.n,S e.s,.own (h.length+2) n],.cells [I 0,I 0,S ⟨#[]⟩,.nils],.arr 96 4 ((e.args.take n).map Ex.c)]⟩) trivial ((nilc_wk E _ (p:=h.length) (j:=3) (t:=96) (sz:=4) (xs:=[I e.op,I e.n,S e.s,.nils]) (by simp) rfl).trans ?_) ?_
 ·
  simp;exact wkA
 intro n hn _;have hw:=qaq hn hb.2.1;simp -dsimp [go_sem,hN];refine cnd ?_ ?_<;>intro hc<;>simp at hc
 ·
  have hlt:SizeOf.sizeOf e.args[n]<SizeOf.sizeOf e:=Ex.arg_lt (List.getElem_mem hc);simp -dsimp [go_sem,hN,hc];refine qah 5 mixed (by kernel_rfl) (by kernel_rfl) ?_;simp -dsimp [go_sem,hN,hc];refine qay (c_ast_copied e.args[n]) (by simp) ?_;simp -dsimp [go_sem,hN,hc,hw];have et:(e.args.map Ex.c).take (n+1)=(e.args.map Ex.c).take n++[e.args[n].x]:=by
   rw [List.take_succ_eq_append_getElem (by simpa using hc)];simp [Ex.c_eq]
  rw [et];exact ⟨by omega,by omega,wkA⟩
 ·
  simp -dsimp [go_sem,hN];rw [if_pos (by omega),List.take_of_length_le (by simpa using hc)]
termination_by SizeOf.sizeOf e
theorem ready_step {P:Program} {N:Nat} {Q:AExit→Env→Prop} {l:List Oper} {n:Nat} {L:Array Bool} {e:Env} (rs:List Nat) (hne:rs≠[]) (hr:Region.ready .any l.toArray L=rs)
  (h:∀ i,i∈rs→match l[i]? with
  | some o=>stepF P N Q (l.map (·.dst)) o e fun e'=>allF P N Q l n (L.setIfInBounds i true) e'
  | none=>False):allF P N Q l (n+1) L e:=⟨fun h0=>(hne (hr▸h0)).elim,fun i hi=>h i (hr▸hi)⟩
theorem c_ast_Exprs1 (e:Ex) (h:qab) (p i:Nat) (l:List Ex) (hp:h[p]?=some (.cells [.own i l.length])) (hi:h[i]?=some (.uarr 96 4 (l.map Ex.c))) (hl:l.length+1≤68719476736) :
  ACalls Tryz.prog 191 [.agg e.x,.ptr p 0] h fun r h'=>r=.ret (.tuple [])∧h'=(h.set i (.uarr 96 4 ((l++[e]).map Ex.c))).set p (.cells [.own i (l.length+1)]):=by
 refine qav Tryz.func191 Tryz.ntmps191 rfl (by kernel_rfl) rfl fun E hN hh hu hb hb' hua=>?_;simp [go_sem] at hb;simp -dsimp [go_sem,hN];have hpl:p<h.length:=(List.getElem?_eq_some_iff.1 hp).1;have hil:i<h.length:=(List.getElem?_eq_some_iff.1 hi).1;have hpi:p≠i:=by rintro rfl;rw [hp] at hi;cases hi
 have hip:i≠p:=fun h=>hpi h.symm;have hp1:∀ l:qab,(h++l)[p]?=h[p]?:=fun l=>List.getElem?_append_left hpl;have hi1:∀ l:qab,(h++l)[i]?=h[i]?:=fun l=>List.getElem?_append_left hil;have hs1:∀ (y:AObj) (l:qab),(h++l).set i y=h.set i y++l:=fun y l=>List.set_append_left _ _ hil;have hs2:∀ (y:AObj) (l:qab),(h++l).set p y=h.set p y++l:=fun y l=>List.set_append_left _ _ hpl;have hs3:∀ (o y:AObj) (l:qab),(h.set i o++l).set p y=(h.set i o).set p y++l:=fun o y l=>List.set_append_left _ _ (by simpa using hpl);have hs4:∀ (o y:AObj) (l:qab),(h.set i o++l).set i y=h.set i y++l:=fun o y l=>by rw [List.set_append_left _ _ (by simpa using hil),List.set_set]
 have hs5:∀ (o o' y:AObj) (l:qab),((h.set i o).set p o'++l).set i y=(h.set i y).set p o'++l:=fun o o' y l=>by rw [List.set_append_left _ _ (by simpa using hil),List.set_comm _ _ hpi,List.set_set]
 have hA:∀ (o:AObj) (l:qab),(h.set i o++l)[i]?=some o:=fun o l=>by rw [List.getElem?_append_left (by simpa using hil)];simp [hil]
 have hB:∀ (o:AObj) (L:qab),(h.set i o++L)[p]?=some (.cells [.own i l.length]):=fun o L=>by rw [List.getElem?_append_left (by simpa using hpl),List.getElem?_set_ne hip];exact hp
 have hC:∀ (o o':AObj) (L:qab),((h.set i o).set p o'++L)[i]?=some o:=fun o o' L=>by rw [List.getElem?_append_left (by simpa using hil),List.getElem?_set_ne hpi];simp [hil]
 have hlast:∀ z:List AV,(l.map Ex.c++[z])[l.length]?=some z:=fun z=>by rw [List.getElem?_append_right (by simp)];simp
 have hset:∀ y z:List AV,(l.map Ex.c++[z]).set l.length y=l.map Ex.c++[y]:=fun y z=>by rw [List.set_append_right _ _ (by simp)];simp
 have hfin:∀ e1:Env,e1.h=(h.set i (AObj.uarr 96 4 (l.map Ex.c++[e.x]))).set p (AObj.cells [AV.own i (l.length+1)])++[AObj.cells e.x] →
   fnPost Tryz.prog [] h.length (fun r h'=>r=AEnd.ret (AV.tuple [])∧h'=(h.set i (AObj.uarr 96 4 (l.map Ex.c++[e.x]))).set p (AObj.cells [AV.own i (l.length+1)])) .normal e1:=fun e1 he=>by
  refine ⟨trivial,.tuple [],_,.refl _,rfl,by rw [he];exact hwk.app0 _,by simp,?_,rfl,rfl⟩;simpa using (qcw (qcw hu (by simp [AObj.under])) (by simp [AObj.under,qaw,AV.under,hil]):hUnder h.length ((h.set i (AObj.uarr 96 4 (l.map Ex.c++[e.x]))).set p (AObj.cells [AV.own i (l.length+1)]))=true)
 show AWp _ _ _ _ _;refine awp_drawX 5 mixed (by kernel_rfl) ?_;simp [opsD,stepD,go_sem,hN,hp1,hi1,hp,hi,DR.next,rdOf,qb9];refine ⟨_,(c_ast_copied e).at _,by simp [sepD,List.zipIdx],?_⟩;refine ready_step [5] (by simp) (by kernel_rfl) ?_;intro i' hi';simp only [List.mem_singleton] at hi';subst hi';simp [go_sem,hN,hp1,hi1,hp,hi,hA,hB,hC,hlast,hset,hs1,hs2,hs3,hs4,hs5];refine ⟨by omega,ready_step [6,8] (by simp) (by kernel_rfl) ?_⟩;intro i' hi';simp only [List.mem_cons,List.mem_singleton,List.not_mem_nil,or_false] at hi';rcases hi' with rfl | rfl
 ·
  simp [go_sem,hN,hp1,hi1,hp,hi,hA,hB,hC,hlast,hset,hs1,hs2,hs3,hs4,hs5];refine ready_step [7,8] (by simp) (by kernel_rfl) ?_;intro i' hi';simp only [List.mem_cons,List.mem_singleton,List.not_mem_nil,or_false] at hi';rcases hi' with rfl | rfl
  ·
   simp [go_sem,hN,hp1,hi1,hp,hi,hA,hB,hC,hlast,hset,hs1,hs2,hs3,hs4,hs5];refine ready_step [8] (by simp) (by kernel_rfl) ?_;intro i' hi';simp only [List.mem_singleton] at hi';subst hi';simp [go_sem,hN,hp1,hi1,hp,hi,hA,hB,hC,hlast,hset,hs1,hs2,hs3,hs4,hs5];refine ⟨by kernel_rfl,hfin _ ?_⟩;simp
  ·
   simp [go_sem,hN,hp1,hi1,hp,hi,hA,hB,hC,hlast,hset,hs1,hs2,hs3,hs4,hs5];refine ready_step [7] (by simp) (by kernel_rfl) ?_;intro i' hi';simp only [List.mem_singleton] at hi';subst hi';simp [go_sem,hN,hp1,hi1,hp,hi,hA,hB,hC,hlast,hset,hs1,hs2,hs3,hs4,hs5];refine ⟨by kernel_rfl,hfin _ ?_⟩;simp
 ·
  simp [go_sem,hN,hp1,hi1,hp,hi,hA,hB,hC,hlast,hset,hs1,hs2,hs3,hs4,hs5];refine ready_step [6] (by simp) (by kernel_rfl) ?_;intro i' hi';simp only [List.mem_singleton] at hi';subst hi';simp [go_sem,hN,hp1,hi1,hp,hi,hA,hB,hC,hlast,hset,hs1,hs2,hs3,hs4,hs5];refine ready_step [7] (by simp) (by kernel_rfl) ?_;intro i' hi';simp only [List.mem_singleton] at hi';subst hi';simp [go_sem,hN,hp1,hi1,hp,hi,hA,hB,hC,hlast,hset,hs1,hs2,hs3,hs4,hs5];refine ⟨by kernel_rfl,hfin _ ?_⟩;simp
theorem c_ast_Exprs (p:Proc):APure Tryz.prog 157 [.agg p.c] (.slice ((qb7 p).map Ex.c)):=by
 refine qaj Tryz.func157 Tryz.ntmps157 rfl (by kernel_rfl) rfl rfl fun E h hN hh hu hb=>?_;simp [go_sem] at hb;simp -dsimp [go_sem,hN];have B:CB Tryz.prog 190 191 [] [.ptr (h.length+1) 0] (fun l:List Ex=>h++[.cells p.c,.cells [.own (h.length+2) l.length],.uarr 96 4 (l.map Ex.c)]) keepS exprR (h.length+3) List.length 68719476735:={
  hS:=fun s _ _=>by simp [keepS]
  hR:=fun s _=>by simp [exprR]
  len:=fun x=>by simp
  und:=fun x=>by rw [qag hu];simp [go_sem]
  ucs:=rfl
  ucr:=by simp [qaw,AV.under]
  ncs:=fun h=>rfl
  ncr:=fun h=>rfl
  stmt:=fun x L t d _=>by
   have:=c_ast_noStmt t d ((h++[.cells p.c,.cells [.own (h.length+2) x.length],.uarr 96 4 (x.map Ex.c)])++L);simpa [keepS] using this
  root:=fun l L e hk=>by
   have:=c_ast_Exprs1 e ((h++[.cells p.c,.cells [.own (h.length+2) l.length],.uarr 96 4 (l.map Ex.c)])++L) (h.length+1) (h.length+2) l (by simp) (by simp) (by omega);simpa [exprR] using this }
 have X:=acalls_wk (h:=h++[.cells p.c,.cells [.nils]]) (fun E=>by
  have:=nilcu_wk E ⟨[],h++[.cells p.c,.cells [.nils]]⟩ (p:=h.length+1) (j:=0) (t:=96) (sz:=4) (xs:=[.nils]) (by simp) rfl;simpa using this) (c_ast_walk B p [] (by simp))
 have Y:=acalls_wkR (h2:=h++[.cells p.c,.cells [.own (h.length+2) (qb7 p).length],.arr 96 4 ((qb7 p).map Ex.c)]) (fun E=>by
  have:=demote_wk E ⟨[],h++[.cells p.c,.cells [.own (h.length+2) (qb7 p).length],.uarr 96 4 ((qb7 p).map Ex.c)]⟩ (i:=h.length+2) (t:=96) (sz:=4) (rows:=(qb7 p).map Ex.c) (by simp);simpa [qb7] using this) X
 refine qan Y ?_;rintro r h' ⟨rfl,rfl⟩;simp -dsimp [go_sem,hN]
end Go.Proofs.YtcjolkgjhcdhcaaGreatDoor

set_option maxRecDepth 4000
namespace Go.Proofs.YtcjolkgjhcdhcaaGreatDoor
open Go Go.Abs Go.Cw
theorem c_types_signature (op:Int):APure Tryz.prog 284 [I op] (.tuple [I (qci op).1,I (qci op).2]):=by
 refine qaj Tryz.func284 Tryz.ntmps284 rfl (by kernel_rfl) rfl rfl fun E h hN hh hu hb=>?_;by_cases h1:op=1
 · subst h1;simp -dsimp [go_sem,hN,qci]
 by_cases h25:op=25
 · subst h25;simp -dsimp [go_sem,hN,qci]
 by_cases h26:op=26
 · subst h26;simp -dsimp [go_sem,hN,qci]
 by_cases h27:op=27
 · subst h27;simp -dsimp [go_sem,hN,qci]
 by_cases h4:op=4
 · subst h4;simp -dsimp [go_sem,hN,qci]
 by_cases h5:op=5
 · subst h5;simp -dsimp [go_sem,hN,qci]
 by_cases h6:op=6
 · subst h6;simp -dsimp [go_sem,hN,qci]
 by_cases h7:op=7
 · subst h7;simp -dsimp [go_sem,hN,qci]
 by_cases h8:op=8
 · subst h8;simp -dsimp [go_sem,hN,qci]
 by_cases h9:op=9
 · subst h9;simp -dsimp [go_sem,hN,qci]
 by_cases h2:op=2
 · subst h2;simp -dsimp [go_sem,hN,qci]
 by_cases h19:op=19
 · subst h19;simp -dsimp [go_sem,hN,qci]
 by_cases h23:op=23
 · subst h23;simp -dsimp [go_sem,hN,qci]
 by_cases h16:op=16
 · subst h16;simp -dsimp [go_sem,hN,qci]
 by_cases h17:op=17
 · subst h17;simp -dsimp [go_sem,hN,qci]
 by_cases h18:op=18
 · subst h18;simp -dsimp [go_sem,hN,qci]
 by_cases h20:op=20
 · subst h20;simp -dsimp [go_sem,hN,qci]
 by_cases h21:op=21
 · subst h21;simp -dsimp [go_sem,hN,qci]
 by_cases h22:op=22
 · subst h22;simp -dsimp [go_sem,hN,qci]
 simp -dsimp [go_sem,hN,qci,h1,h25,h26,h27,h4,h5,h6,h7,h8,h9,h2,h19,h23,h16,h17,h18,h20,h21,h22]
theorem c_types_compared (op ty:Int):APure Tryz.prog 283 [I op,I ty] (Bo (cmpOk op ty)):=by
 refine qaj Tryz.func283 Tryz.ntmps283 rfl (by kernel_rfl) rfl rfl fun E h hN hh hu hb=>?_;simp -dsimp [go_sem,hN,cmpOk]
 try grind
theorem c_nondeterministic (op:Int):APure Tryz.prog 159 [I op] (Bo (nonDet op)):=by
 refine qaj Tryz.func159 Tryz.ntmps159 rfl (by kernel_rfl) rfl rfl fun E h hN hh hu hb=>?_;simp -dsimp [go_sem,hN,nonDet]
 try grind
theorem c_types_plain (s:qac):APure Tryz.prog 112 [S s] (Bo (qa7 s)):=by
 refine qaj Tryz.func112 Tryz.ntmps112 rfl (by kernel_rfl) rfl rfl fun E h hN hh hu hb=>?_;simp [go_sem] at hb;simp -dsimp [go_sem,hN];refine qaf s.size (fun n=>allL okB ((bl s).drop n)=allL okB (bl s)) (fun n=>⟨[(0,S s),(3,I n)],h⟩) (by simp) wkA ?_;intro n hn hI;have hw:=qaq hn hb;simp -dsimp [go_sem,hN];refine cnd ?_ ?_<;>intro hc<;>try simp at hc
 ·
  rw [bdrop hc,allL] at hI;simp -dsimp [go_sem,hN,hc];refine cnd (fun hg=>?_) (fun hg=>?_)
  ·
   simp -dsimp [go_sem,hN];simp [qa7,← hI,okB,hg]
  ·
   simp -dsimp [go_sem,hN,hw];exact ⟨hc,by simpa [okB,hg] using hI,wkA⟩
 ·
  rw [bend (by omega),allL] at hI;simp -dsimp [go_sem,hN,qa7,← hI]
end Go.Proofs.YtcjolkgjhcdhcaaGreatDoor

set_option maxRecDepth 4000
namespace Go.Proofs.YtcjolkgjhcdhcaaGreatDoor
open Go Go.Abs Go.Cw
theorem c_num_Neg (a:Int):APure Tryz.prog 196 [I a] (.tuple [I (qdo a).1,I (qdo a).2]):=by
 refine qaj Tryz.func196 Tryz.ntmps196 rfl (by kernel_rfl) rfl rfl fun E h hN hh hu hb=>?_;simp -dsimp [go_sem,hN];refine cnd ?_ ?_<;>intro h0<;>simp at h0<;>simp -dsimp [go_sem,hN,qdo,h0]
theorem c_num_Add (a b:Int):APure Tryz.prog 240 [I a,I b] (.tuple [I (numAdd a b).1,I (numAdd a b).2]):=by
 refine qaj Tryz.func240 Tryz.ntmps240 rfl (by kernel_rfl) rfl rfl fun E h hN hh hu hb=>?_;simp -dsimp [go_sem,hN]
 repeat refine ⟨by grind,?_⟩
 refine cnd ?_ ?_<;>intro h0<;>simp at h0<;>simp -dsimp [go_sem,hN]<;>grind [numAdd]
theorem c_num_Sub (a b:Int):APure Tryz.prog 241 [I a,I b] (.tuple [I (qcq a b).1,I (qcq a b).2]):=by
 refine qaj Tryz.func241 Tryz.ntmps241 rfl (by kernel_rfl) rfl rfl fun E h hN hh hu hb=>?_;simp -dsimp [go_sem,hN]
 repeat refine ⟨by grind,?_⟩
 refine cnd ?_ ?_<;>intro h0<;>simp at h0<;>simp -dsimp [go_sem,hN]<;>grind [qcq]
theorem c_num_Mul (a b:Int):APure Tryz.prog 242 [I a,I b] (.tuple [I (numMul a b).1,I (numMul a b).2]):=by
 refine qaj Tryz.func242 Tryz.ntmps242 rfl (by kernel_rfl) rfl rfl fun E h hN hh hu hb=>?_;simp -dsimp [go_sem,hN]
 repeat refine ⟨by grind,?_⟩
 refine cnd ?_ ?_<;>intro h0<;>simp at h0<;>simp -dsimp [go_sem,hN]
 · grind [numMul]
 refine cnd ?_ ?_<;>intro h1<;>simp at h1<;>simp -dsimp [go_sem,hN]
 ·
  refine qaa (c_num_Neg b) ?_;simp -dsimp [go_sem,hN];grind [numMul]
 refine cnd ?_ ?_<;>intro h2<;>simp at h2<;>simp -dsimp [go_sem,hN]
 ·
  refine qaa (c_num_Neg a) ?_;simp -dsimp [go_sem,hN];grind [numMul]
 repeat refine ⟨by grind,?_⟩
 refine cnd ?_ ?_<;>intro h3<;>simp at h3<;>simp -dsimp [go_sem,hN]<;>grind [numMul]
theorem c_num_Div (a b:Int):APure Tryz.prog 243 [I a,I b] (.tuple [I (numDiv a b).1,I (numDiv a b).2]):=by
 refine qaj Tryz.func243 Tryz.ntmps243 rfl (by kernel_rfl) rfl rfl fun E h hN hh hu hb=>?_;simp -dsimp [go_sem,hN];refine cnd ?_ ?_<;>intro h0<;>simp at h0<;>simp -dsimp [go_sem,hN]
 · grind [numDiv]
 refine cnd ?_ ?_<;>intro h1<;>simp at h1<;>simp -dsimp [go_sem,hN]
 ·
  refine qaa (c_num_Neg a) ?_;simp -dsimp [go_sem,hN];grind [numDiv]
 repeat refine ⟨by grind,?_⟩
 refine cnd ?_ ?_<;>intro h3<;>simp at h3<;>simp -dsimp [go_sem,hN]<;>grind [numDiv]
theorem c_num_Mod (a b:Int):APure Tryz.prog 244 [I a,I b] (.tuple [I (numMod a b).1,I (numMod a b).2]):=by
 refine qaj Tryz.func244 Tryz.ntmps244 rfl (by kernel_rfl) rfl rfl fun E h hN hh hu hb=>?_;simp -dsimp [go_sem,hN];refine cnd ?_ ?_<;>intro h0<;>simp at h0<;>simp -dsimp [go_sem,hN]
 · grind [numMod]
 refine cnd ?_ ?_<;>intro h1<;>simp at h1<;>simp -dsimp [go_sem,hN]
 · grind [numMod]
 repeat refine ⟨by grind,?_⟩
 refine cnd ?_ ?_<;>intro h3<;>simp at h3<;>simp -dsimp [go_sem,hN]<;>grind [numMod]
theorem c_cmp_isNaN (a:Int):APure Tryz.prog 289 [I a] (Bo false):=by
 refine qaj Tryz.func289 Tryz.ntmps289 rfl (by kernel_rfl) rfl rfl fun E h hN hh hu hb=>?_;simp -dsimp [go_sem,hN]
theorem c_cmp_isNaN64 (a:Int):APure Tryz.prog 304 [I a] (Bo false):=by
 refine qaj Tryz.func304 Tryz.ntmps304 rfl (by kernel_rfl) rfl rfl fun E h hN hh hu hb=>?_;simp -dsimp [go_sem,hN]
theorem c_cmp_Compare (a b:Int):APure Tryz.prog 264 [I a,I b] (I (cmpI a b)):=by
 refine qaj Tryz.func264 Tryz.ntmps264 rfl (by kernel_rfl) rfl rfl fun E h hN hh hu hb=>?_;simp -dsimp [go_sem,hN];refine qaa (c_cmp_isNaN a) ?_;simp -dsimp [go_sem,hN];refine qaa (c_cmp_isNaN b) ?_;simp -dsimp [go_sem,hN];refine cnd ?_ ?_<;>intro h0<;>simp at h0<;>simp -dsimp [go_sem,hN]
 · grind [cmpI]
 refine cnd ?_ ?_<;>intro h1<;>simp at h1<;>simp -dsimp [go_sem,hN]<;>grind [cmpI]
theorem c_cmp_Compare64 (a b:Int):APure Tryz.prog 290 [I a,I b] (I (cmpI a b)):=by
 refine qaj Tryz.func290 Tryz.ntmps290 rfl (by kernel_rfl) rfl rfl fun E h hN hh hu hb=>?_;simp -dsimp [go_sem,hN];refine qaa (c_cmp_isNaN64 a) ?_;simp -dsimp [go_sem,hN];refine qaa (c_cmp_isNaN64 b) ?_;simp -dsimp [go_sem,hN];refine cnd ?_ ?_<;>intro h0<;>simp at h0<;>simp -dsimp [go_sem,hN]
 · grind [cmpI]
 refine cnd ?_ ?_<;>intro h1<;>simp at h1<;>simp -dsimp [go_sem,hN]<;>grind [cmpI]
theorem c_pair_numbers (u v:V):APure Tryz.prog 265 [.agg [I u.k,I u.n,S u.s,I v.k,I v.n,S v.s]] (I (cmpI u.n v.n)):=by
 refine qaj Tryz.func265 Tryz.ntmps265 rfl (by kernel_rfl) rfl rfl fun E h hN hh hu hb=>?_;simp -dsimp [go_sem,hN];refine qaa (c_cmp_Compare64 u.n v.n) ?_;simp -dsimp [go_sem,hN]
end Go.Proofs.YtcjolkgjhcdhcaaGreatDoor

set_option maxRecDepth 4000
namespace Go.Proofs.YtcjolkgjhcdhcaaGreatDoor
open Go Go.Abs Go.Cw Go.Shelf
def renC:Ren:=⟨fun | 106=>85 | 213=>109 | 265=>131 | x=>x,fun | 3=>3 | 9=>9 | x=>x,fun x=>x⟩
theorem laysC:Lays.n106 Tryz.prog renC where
 mixed:=by kernel_rfl
 f106:=by kernel_rfl
 f213:=by kernel_rfl
 f265:=by kernel_rfl
 t3:=by kernel_rfl
 a3:=fun _=>by kernel_rfl
 z3:=fun _=>by kernel_rfl
 v3:=fun _=>by kernel_rfl
 t9:=by kernel_rfl
 a9:=fun _=>by kernel_rfl
 z9:=fun _=>by kernel_rfl
 v9:=fun _=>by kernel_rfl
theorem c_strings_Compare (a b:qac):APure Tryz.prog 85 [S a,S b] (I (cmpS a b)) :=
 apure_calls (l:=[.string a,.string b]) (r:=.int .i64 (cmpS a b)) rfl ⟨_,laysC.f106,rfl,rfl⟩ fun w=>Any.strings_Compare laysC a b w
theorem c_pair_strings (u v:V):APure Tryz.prog 266 [.agg [I u.k,I u.n,S u.s,I v.k,I v.n,S v.s]] (I (cmpS u.s v.s)):=by
 refine qaj Tryz.func266 Tryz.ntmps266 rfl (by kernel_rfl) rfl rfl fun E h hN hh hu hb=>?_;simp -dsimp [go_sem,hN];refine qaa (c_strings_Compare u.s v.s) ?_;simp -dsimp [go_sem,hN]
theorem c_value_Compare (u v:V):APure Tryz.prog 245 [.agg u.c,.agg v.c] (I (cmpV u v)):=by
 refine qaj Tryz.func245 Tryz.ntmps245 rfl (by kernel_rfl) rfl rfl fun E h hN hh hu hb=>?_;simp -dsimp [go_sem,hN];refine cnd ?_ ?_<;>intro h0<;>simp at h0<;>simp -dsimp [go_sem,hN]
 ·
  refine qaa (c_cmp_Compare u.k v.k) ?_;simp -dsimp [go_sem,hN];simp [cmpV,h0]
 refine cnd ?_ ?_<;>intro h1<;>simp at h1<;>simp -dsimp [go_sem,hN]
 ·
  refine qaa (c_pair_strings u v) ?_;simp -dsimp [go_sem,hN];simp [cmpV,h0,h1]
 ·
  refine qaa (c_pair_numbers u v) ?_;simp -dsimp [go_sem,hN];simp [cmpV,h0,h1]
end Go.Proofs.YtcjolkgjhcdhcaaGreatDoor
