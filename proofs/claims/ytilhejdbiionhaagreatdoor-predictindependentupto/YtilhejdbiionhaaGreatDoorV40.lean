/- Part 40 of a proof: W141, W40, W44, W45, W32, W33, W34, W46, W46b, W46c, W46d, W46e -/
import Derived.Shelf.Small.Strs
import Derived.Shelf.Strconv.Itoa4
import Derived.Lib.ItoaLen
import Derived.Test.YtilhejdbiionhaaGreatDoorV13
import Derived.Test.YtilhejdbiionhaaGreatDoorV14
import Derived.Test.YtilhejdbiionhaaGreatDoorV16
import Derived.Test.YtilhejdbiionhaaGreatDoorV17
import Derived.Test.YtilhejdbiionhaaGreatDoorV20
import Derived.Test.YtilhejdbiionhaaGreatDoorV22
import Derived.Test.YtilhejdbiionhaaGreatDoorV23
import Derived.Test.YtilhejdbiionhaaGreatDoorV24
import Derived.Test.YtilhejdbiionhaaGreatDoorV25
import Derived.Test.YtilhejdbiionhaaGreatDoorV26
import Derived.Test.YtilhejdbiionhaaGreatDoorV27
import Derived.Test.YtilhejdbiionhaaGreatDoorV28
import Derived.Test.YtilhejdbiionhaaGreatDoorV30
import Derived.Test.YtilhejdbiionhaaGreatDoorV31
import Derived.Test.YtilhejdbiionhaaGreatDoorV33
import Derived.Test.YtilhejdbiionhaaGreatDoorV38
import Derived.Test.YtilhejdbiionhaaGreatDoorV39
set_option linter.all false

set_option maxRecDepth 4000
set_option maxHeartbeats 4000000
namespace Go.Proofs.YtilhejdbiionhaaGreatDoor
open Go Go.Abs Go.Cw
variable {tT:TypeId} {tx:Nat×Nat} {g:Nat}
def initL:List Param→List V→List (qac×AX)→List (qac×AX)
 | p::ps,v::vs,l=>initL ps vs (qbz l p.name (kn v))
 | _,_,l=>l
theorem initL_nod:∀ (ps:List Param) (vs:List V) (l:List (qac×AX)),(keysM l).Nodup→(keysM (initL ps vs l)).Nodup
 | [],_,l,h=>by simpa [initL] using h
 | _::_,[],l,h=>by simpa [initL] using h
 | p::ps,v::vs,l,h=>by rw [initL];exact initL_nod ps vs _ (keysM_set h _ _)
theorem initL_get:∀ (ps:List Param) (vs:List V) (l:List (qac×AX)) (f:MV),(∀ k,qbm l k=f k)→∀ k,qbm (initL ps vs l) k=initF ps vs f k
 | [],_,l,f,h,k=>by simpa [initL,initF] using h k
 | _::_,[],l,f,h,k=>by simpa [initL,initF] using h k
 | p::ps,v::vs,l,f,h,k=>by
  rw [initL,initF];exact initL_get ps vs _ _ (fun k=>by rw [qc0,h];rfl) k
theorem initF_rng:∀ (ps:List Param) (vs:List V) (f:MV),(∀ v∈vs,rngV v)→rngF f→rngF (initF ps vs f)
 | [],_,f,_,h=>by simpa [initF] using h
 | _::_,[],f,_,h=>by simpa [initF] using h
 | p::ps,v::vs,f,hv,h=>by
  rw [initF];exact initF_rng ps vs _ (fun w hw=>hv w (by simp [hw])) (h.upd (hv v (by simp)))
theorem c_pr_Static (p:Proc) (args:List V) (h:qab) (hg:h[g]?=some (tabO tT tx)) (hI:RunIn qbo p args []) :
  ACalls Tryz.prog 13 [.agg p.c,.slice (args.map V.c)] h fun r h'=>r=.ret (.tuple [.agg (statS qbo p args).1.c,I (statS qbo p args).2])∧h'=h:=by
 refine qaq Tryz.func13 Tryz.ntmps13 rfl (by kernel_rfl) rfl fun E hN hh hu hb hb' hua=>?_;have hgl:g<h.length:=(List.getElem?_eq_some_iff.1 hg).1;simp [go_sem] at hb;obtain ⟨R,hR⟩:∃ R,statS qbo p args=R:=⟨_,rfl⟩
 rw [hR];unfold statS at hR;simp -dsimp [go_sem,hN];refine qaa (c_predict_fits p args) ?_;simp -dsimp [go_sem,hN];refine cnd ?_ ?_<;>intro h0<;>simp at h0
 ·
  rw [if_pos (by grind)] at hR;subst hR;simp -dsimp [go_sem,hN,Foot.c];exact ⟨_,.refl _,h,by simp [go_sem],hwk.app0 _,Nat.le_refl _,hu,rfl,rfl⟩
 rw [if_neg (by grind)] at hR;simp -dsimp [go_sem,hN];obtain ⟨hlen,hax⟩:=argsErr_ok h0.2;obtain ⟨L0,hL0⟩:∃ L0,initL p.params args []=L0:=⟨_,rfl⟩
 refine qat (α:=List (qac×AX)) args.length (fun n l=>initL (p.params.drop n) (args.drop n) l=L0) (fun n l=>⟨[(2,.ptr h.length 0),(4,.ptr (h.length+1) 0),(6,.ptr (h.length+4) 0),(7,.mapr (h.length+5)),(20,.slice (args.map V.c)),(21,I args.length),(22,I n)],h++[.cells p.c,.cells [Bo false,.nils,.nils],.map [],.map [],.cells [.mapr (h.length+2),.mapr (h.length+3),Bo false],.map (kAV qcu l)]⟩) [] (by simpa using hL0) (Wk.mk (by simp [hh]) (by simp [Proc.c,kAV,qbv,hwk.refl]) (by simp [hu,qal hu,go_sem,Proc.c,kAV,qbv]) (by simp [go_sem])) ?_;rintro n l hn hI1;have hw:=qa3 hn hb.2.1;simp -dsimp [go_sem,hN];refine cnd ?_ ?_<;>intro hc<;>simp at hc
 ·
  have hc2:n<p.params.length:=by omega
  rw [qae hc,qae hc2,initL] at hI1;simp -dsimp [go_sem,hN,hc];refine qak 9 mixed (by kernel_rfl) (by kernel_rfl) ?_;simp -dsimp [go_sem,hN,hc,hc2,Proc.c,V.c,Param.c];have hkv:AObj.map (kAV qcu (qbz l p.params[n].name ⟨true,⟨args[n].k,args[n].n,args[n].s⟩⟩))=.map (kAV qcu (qbz l p.params[n].name (kn args[n]))):=rfl;simp only [hkv];simp -dsimp [go_sem,hN,hw];exact ⟨_,hI1,Wk.mk (by simp [hh]) (by simp [Proc.c,hwk_app,go_sem]) (by
   dsimp only;rw [List.length_append,qal hu];simp only [hUnder,qdh];simp [AObj.under,AV.under,qam,Proc.c]) (by simp [go_sem])⟩
 rw [List.drop_eq_nil_of_le (by omega:args.length≤n)] at hI1;have hl:l=L0:=by
  rw [← hI1];cases p.params.drop n<;>simp [initL]
 subst hl;obtain ⟨K,hK⟩:∃ K:XS→qab,K=fun x=>h++[.cells p.c,.cells [Bo false,.nils,.nils],setO x.r,setO x.w,.cells (xC (h.length+2) (h.length+3) x.f),.map (kAV qcu l)]:=⟨_,rfl⟩
 have Y:PHs tT tx g (h.length+4) (h.length+2) (h.length+3) K (h.length+6):=by
  rw [hK];refine ⟨fun x=>by simp,by omega,by omega,by omega,by omega,fun x=>?_,fun x=>by simp,fun x=>by simp,fun x=>by simp,fun x b=>by simp,fun x l=>by simp,fun x l=>by simp,fun x=>?_⟩
  ·
   show (h++_)[g]?=_;rw [List.getElem?_append_left hgl,hg]
  ·
   have hb1:∀ (n:Nat) (m:List qac),(setO m).under n=true:=fun n m=>kAV_und (fun n a=>by simp [boAV,go_sem]) n (tru m);show hUnder (h.length+6) (h++_)=true;rw [qal hu];simp only [hUnder,hb1,qdh];simp [AObj.under,AV.under,qam,Proc.c]
 have hVM:VM K (h.length+5) (initF p.params args fun _=>none) l:=⟨fun x=>by rw [hK];simp,by rw [← hL0];exact initL_nod _ _ _ (by simp [keysM]),fun k=>by rw [← hL0];exact initL_get _ _ _ _ (fun k=>rfl) k⟩
 have hFr:rngF (initF p.params args fun _=>none):=initF_rng _ _ _ hI.args fun k a h=>by cases h
 have hcall:=c_pr_blk p.body 1 (cost_okL h0.1) hI.body Y ⟨[],[],false⟩ hVM (by omega) hFr;obtain ⟨⟨o,x⟩,hx⟩:∃ R,exBl qbo p.body (initF p.params args fun _=>none) ⟨[],[],false⟩=R:=⟨_,rfl⟩
 have hko:KO x:=by
  have:=exP_ko (fmt:=qbo) (p:=p) (args:=args);rw [exP,hx] at this;exact this
 rw [hx] at hcall hR;dsimp only at hR;have hK0:h++[.cells [S p.name,.slice (p.params.map Param.c),.slice (p.body.map St.c)],.cells [Bo false,.nils,.nils],.map [],.map [],.cells [.mapr (h.length+2),.mapr (h.length+3),Bo false],.map (kAV qcu l)]=K ⟨[],[],false⟩:=by rw [hK];rfl
 have hlr:(kAV boAV (tru x.r)).length=x.r.length:=by simp [kAV,qbv]
 have hlw:(kAV boAV (tru x.w)).length=x.w.length:=by simp [kAV,qbv]
 have hKx:∀ M,K x++M=h++(.cells [S p.name,.slice (p.params.map Param.c),.slice (p.body.map St.c)]::.cells [Bo false,.nils,.nils]::.map (kAV boAV (tru x.r))::.map (kAV boAV (tru x.w))::.cells [.mapr (h.length+2),.mapr (h.length+3),Bo x.f]::.map (kAV qcu l)::M):=fun M=>by rw [hK];simp [Proc.c]
 simp -dsimp [go_sem,hN,Proc.c];simp only [hK0];refine qaj hcall ?_;rintro r h' ⟨L,rfl,huL,h3⟩;dsimp only;simp only [hKx];rcases h3 with ⟨ho,m,rfl,rfl⟩ | ⟨f',j',lv',ho,rfl,hj',hV',hfr'⟩
 ·
  simp -dsimp [go_sem,hN];refine cnd (fun h1=>?_) (fun h1=>?_)
  ·
   rw [if_pos h1] at hR;subst hR;simp -dsimp [go_sem,hN,Foot.c];exact ⟨_,.refl _,h,by simp [go_sem],hwk.app0 _,Nat.le_refl _,hu,rfl,rfl⟩
  rw [if_neg (by simp [h1])] at hR;simp -dsimp [go_sem,hN,hlr,hlw]
  repeat refine ⟨by grind,?_⟩
  refine cnd ?_ ?_<;>intro h2<;>simp at h2
  ·
   rw [if_pos (by omega)] at hR;subst hR;simp -dsimp [go_sem,hN,Foot.c];exact ⟨_,.refl _,h,by simp [go_sem],hwk.app0 _,Nat.le_refl _,hu,rfl,rfl⟩
  rw [if_neg (by omega)] at hR;subst hR;simp -dsimp [go_sem,hN];refine qak 9 mixed (by kernel_rfl) (by kernel_rfl) ?_;simp -dsimp [go_sem,hN];refine tdcall_at (r:=.slice ((qdo x.r).map qa1)) (fun _ h' hs=>c_pr_sorted x.r hko.rn (by omega) h' (h.length+2) (hs _ _ rfl (by simp))) (by simp) ?_;simp -dsimp [go_sem,hN];refine qaj (c_pr_sorted x.w hko.wn (by omega) _ (h.length+3) (by simp)) ?_;rintro r h' ⟨rfl,rfl⟩;simp -dsimp [go_sem,hN,Foot.c];exact ⟨_,.refl _,h,by simp [go_sem],hwk.app0 _,Nat.le_refl _,hu,rfl,rfl⟩
 ·
  simp -dsimp [go_sem,hN];refine cnd (fun h1=>?_) (fun h1=>?_)
  ·
   rw [if_pos h1] at hR;subst hR;simp -dsimp [go_sem,hN,Foot.c];exact ⟨_,.refl _,h,by simp [go_sem],hwk.app0 _,Nat.le_refl _,hu,rfl,rfl⟩
  rw [if_neg (by simp [h1])] at hR;simp -dsimp [go_sem,hN,hlr,hlw]
  repeat refine ⟨by grind,?_⟩
  refine cnd ?_ ?_<;>intro h2<;>simp at h2
  ·
   rw [if_pos (by omega)] at hR;subst hR;simp -dsimp [go_sem,hN,Foot.c];exact ⟨_,.refl _,h,by simp [go_sem],hwk.app0 _,Nat.le_refl _,hu,rfl,rfl⟩
  rw [if_neg (by omega)] at hR;subst hR;simp -dsimp [go_sem,hN];refine qak 9 mixed (by kernel_rfl) (by kernel_rfl) ?_;simp -dsimp [go_sem,hN];refine tdcall_at (r:=.slice ((qdo x.r).map qa1)) (fun _ h' hs=>c_pr_sorted x.r hko.rn (by omega) h' (h.length+2) (hs _ _ rfl (by simp))) (by simp) ?_;simp -dsimp [go_sem,hN];refine qaj (c_pr_sorted x.w hko.wn (by omega) _ (h.length+3) (by simp)) ?_;rintro r h' ⟨rfl,rfl⟩;simp -dsimp [go_sem,hN,Foot.c];exact ⟨_,.refl _,h,by simp [go_sem],hwk.app0 _,Nat.le_refl _,hu,rfl,rfl⟩
end Go.Proofs.YtilhejdbiionhaaGreatDoor

set_option maxRecDepth 4000
set_option maxHeartbeats 1000000
namespace Go.Proofs.YtilhejdbiionhaaGreatDoor
open Go Go.Abs Go.Cw
def kwL:List qac:=[⟨#[112,114,111,99]⟩,⟨#[108,101,116]⟩,⟨#[112,117,116]⟩,⟨#[100,101,108,101,116,101]⟩,⟨#[105,102]⟩,⟨#[101,108,115,101]⟩,⟨#[102,111,114]⟩,⟨#[116,111]⟩,⟨#[109,97,120]⟩,⟨#[101,109,105,116]⟩,⟨#[97,98,111,114,116]⟩,⟨#[110,111,116]⟩,⟨#[97,110,100]⟩,⟨#[111,114]⟩,⟨#[105,110,116]⟩,⟨#[115,116,114]⟩,⟨#[98,111,111,108]⟩,⟨#[116,101,120,116]⟩,⟨#[108,101,110]⟩,⟨#[103,101,116,105,110,116]⟩,⟨#[103,101,116,115,116,114]⟩,⟨#[104,97,115]⟩,⟨#[110,111,119]⟩,⟨#[114,97,110,100,111,109]⟩,⟨#[110,111,100,101]⟩]
theorem kw_has (s:qac):hasK kwL s=kw s:=by
 have e:∀ a:qac,decide (a=s)=decide (s=a):=fun a=>decide_eq_decide.2 ⟨Eq.symm,Eq.symm⟩;simp only [hasK,kwL,anyL,kw,Bool.or_false,e,Bool.or_assoc]
theorem c_ref07_has (l:List qac) (k:qac):APure Tryz.prog 225 [.slice (l.map qa1),S k] (Bo (hasK l k)):=by
 refine qap Tryz.func225 Tryz.ntmps225 rfl (by kernel_rfl) rfl rfl fun E h hN hh hu hb=>?_;simp [go_sem] at hb;simp -dsimp [go_sem,hN];refine qao l.length (fun n=>hasK (l.drop n) k=hasK l k) (fun n=>⟨[(0,.slice (l.map qa1)),(1,S k),(5,I n)],h⟩) (by simp) wkA ?_;intro n hn hI;have hw:=qa3 hn hb.1.1;simp -dsimp [go_sem,hN];refine cnd ?_ ?_<;>intro hc<;>simp at hc
 ·
  rw [qae hc,hasK,anyL] at hI;simp -dsimp [go_sem,hN,hc];refine cnd ?_ ?_<;>intro hg<;>simp at hg
  ·
   simp -dsimp [go_sem,hN];simp [← hI,hg]
  ·
   simp -dsimp [go_sem,hN,hw];exact ⟨hc,by simpa [hg,hasK] using hI,wkA⟩
 ·
  rw [List.drop_eq_nil_of_le (by omega),hasK,anyL] at hI;simp -dsimp [go_sem,hN,← hI]
theorem c_ref07_Keywords:APure Tryz.prog 226 [] (.slice (kwL.map qa1)):=by
 refine qap Tryz.func226 Tryz.ntmps226 rfl (by kernel_rfl) rfl rfl fun E h hN hh hu hb=>?_;simp -dsimp [go_sem,hN];simp [kwL,qa1]
theorem c_ref07_IsKeyword (s:qac):APure Tryz.prog 184 [S s] (Bo (kw s)):=by
 refine qap Tryz.func184 Tryz.ntmps184 rfl (by kernel_rfl) rfl rfl fun E h hN hh hu hb=>?_;simp -dsimp [go_sem,hN];refine qaa c_ref07_Keywords ?_;simp -dsimp [go_sem,hN];refine qaa (c_ref07_has kwL s) ?_;simp -dsimp [go_sem,hN,kw_has]
theorem c_ref07_letter (c:UInt8):APure Tryz.prog 182 [U8 c.toNat] (Bo (ltr c.toNat)):=by
 refine qap Tryz.func182 Tryz.ntmps182 rfl (by kernel_rfl) rfl rfl fun E h hN hh hu hb=>?_;simp -dsimp [go_sem,hN,ltr]
theorem c_ref07_digit (c:UInt8):APure Tryz.prog 261 [U8 c.toNat] (Bo (decide ((48:Int)≤c.toNat)&&decide ((c.toNat:Int)≤57))):=by
 refine qap Tryz.func261 Tryz.ntmps261 rfl (by kernel_rfl) rfl rfl fun E h hN hh hu hb=>?_;simp -dsimp [go_sem,hN]
theorem c_ref07_part (c:UInt8):APure Tryz.prog 224 [U8 c.toNat] (Bo (wordI c.toNat)):=by
 refine qap Tryz.func224 Tryz.ntmps224 rfl (by kernel_rfl) rfl rfl fun E h hN hh hu hb=>?_;simp -dsimp [go_sem,hN];refine qaa (c_ref07_letter c) ?_;simp -dsimp [go_sem,hN];refine qaf (c_ref07_digit c) (by simp) ?_;simp -dsimp [go_sem,hN,wordI];grind
theorem c_ref07_word (s:qac):APure Tryz.prog 183 [S s,I 0] (I (wordLen (bl s))):=by
 refine qap Tryz.func183 Tryz.ntmps183 rfl (by kernel_rfl) rfl rfl fun E h hN hh hu hb=>?_;simp [go_sem] at hb;simp -dsimp [go_sem,hN];refine qao s.size (fun n=>n+wordLen ((bl s).drop n)=wordLen (bl s)) (fun n=>⟨[(0,S s),(1,I n)],h⟩) (by simp) wkA ?_;intro n hn hI;have hw:=qa3 hn hb;simp -dsimp [go_sem,hN];by_cases hc:n<s.size
 ·
  rw [bdrop hc,wordLen] at hI;simp -dsimp [go_sem,hN,hc];refine qaf (c_ref07_part (bAt s n)) (by simp [hc]) ?_;simp -dsimp [go_sem,hN,hc];refine cnd ?_ ?_<;>intro hg<;>try simp at hg
  ·
   simp -dsimp [go_sem,hN,hw];exact ⟨hc,by rw [if_pos hg] at hI;omega,wkA⟩
  ·
   simp -dsimp [go_sem,hN];rw [if_neg (by simp [hg])] at hI;omega
 ·
  rw [bend hc,wordLen] at hI;simp -dsimp [go_sem,hN,hc];refine tgcall_if .top (by simp) (by simp) ?_;simp -dsimp [go_sem,hN];omega
theorem c_ref07_IsName (s:qac):APure Tryz.prog 134 [S s] (Bo (nameOk s)):=by
 refine qap Tryz.func134 Tryz.ntmps134 rfl (by kernel_rfl) rfl rfl fun E h hN hh hu hb=>?_;rcases sz_em s with rfl | h1
 ·
  simp -dsimp [go_sem,hN,nameOk];refine tgcall_if .top (by simp) (by simp) ?_;simp -dsimp [go_sem,hN];refine tgcall_if .top (by simp) (by simp) ?_;simp -dsimp [go_sem,hN];refine tgcall_if .top (by simp) (by simp) ?_;simp -dsimp [go_sem,hN,nameOk]
 ·
  have h1':0<s.size:=by omega
  have he:¬ s=em:=by rintro rfl;simp at h1
  simp -dsimp [go_sem,hN,h1',he];refine qaf (c_ref07_letter _) (by simp) ?_;simp -dsimp [go_sem,hN];refine qaf (c_ref07_word s) (by simp) ?_;simp -dsimp [go_sem,hN];refine qaf (c_ref07_IsKeyword s) (by simp) ?_;simp -dsimp [go_sem,hN,nameOk,he,h1]
theorem c_ref08_Arity (op:Int):APure Tryz.prog 263 [I op] (I (qb6 op)):=by
 refine qap Tryz.func263 Tryz.ntmps263 rfl (by kernel_rfl) rfl rfl fun E h hN hh hu hb=>?_;by_cases h1:op=1
 · subst h1;simp -dsimp [go_sem,hN,qb6]
 by_cases h2:op=2
 · subst h2;simp -dsimp [go_sem,hN,qb6]
 by_cases h3:op=3
 · subst h3;simp -dsimp [go_sem,hN,qb6]
 by_cases h25:op=25
 · subst h25;simp -dsimp [go_sem,hN,qb6]
 by_cases h26:op=26
 · subst h26;simp -dsimp [go_sem,hN,qb6]
 by_cases h27:op=27
 · subst h27;simp -dsimp [go_sem,hN,qb6]
 by_cases h9:op=9
 · subst h9;simp -dsimp [go_sem,hN,qb6]
 by_cases h18:op=18
 · subst h18;simp -dsimp [go_sem,hN,qb6]
 by_cases h20:op=20
 · subst h20;simp -dsimp [go_sem,hN,qb6]
 by_cases h21:op=21
 · subst h21;simp -dsimp [go_sem,hN,qb6]
 by_cases h22:op=22
 · subst h22;simp -dsimp [go_sem,hN,qb6]
 by_cases h23:op=23
 · subst h23;simp -dsimp [go_sem,hN,qb6]
 by_cases h24:op=24
 · subst h24;simp -dsimp [go_sem,hN,qb6]
 simp -dsimp [go_sem,hN,h1,h2,h3,h25,h26,h27,h9,h18,h20,h21,h22,h23,h24];refine cnd ?_ ?_<;>intro hg<;>simp at hg
 ·
  simp -dsimp [go_sem,hN];unfold qb6;rw [if_neg (by omega),if_neg (by omega),if_neg (by omega)]
 ·
  simp -dsimp [go_sem,hN];unfold qb6;rw [if_pos (by omega)]
theorem qdj (e:Ex):APure Tryz.prog 187 [.agg e.x] (Bo (absE e)):=by
 refine qap Tryz.func187 Tryz.ntmps187 rfl (by kernel_rfl) rfl rfl fun E h hN hh hu hb=>?_;simp -dsimp [go_sem,hN,absE]
theorem c_ref08_Plain (s:qac):APure Tryz.prog 85 [S s] (Bo (qb1 s)):=by
 refine qap Tryz.func85 Tryz.ntmps85 rfl (by kernel_rfl) rfl rfl fun E h hN hh hu hb=>?_;simp [go_sem] at hb;simp -dsimp [go_sem,hN];refine cnd ?_ ?_<;>intro h0<;>simp at h0
 ·
  simp -dsimp [go_sem,hN];simp [qb1,Int.not_le.2 h0]
 simp -dsimp [go_sem,hN];refine qao s.size (fun n=>allL okB ((bl s).drop n)=allL okB (bl s)) (fun n=>⟨[(0,S s),(3,I n)],h⟩) (by simp) wkA ?_;intro n hn hI;have hw:=qa3 hn hb;simp -dsimp [go_sem,hN];refine cnd ?_ ?_<;>intro hc<;>simp at hc
 ·
  rw [bdrop hc,allL] at hI;simp -dsimp [go_sem,hN,hc];refine cnd (fun hg=>?_) (fun hg=>?_)
  ·
   simp -dsimp [go_sem,hN];simp [qb1,← hI,okB,hg]
  ·
   simp -dsimp [go_sem,hN,hw];exact ⟨hc,by simpa [okB,hg] using hI,wkA⟩
 ·
  rw [bend (by omega),allL] at hI;simp -dsimp [go_sem,hN,qb1,← hI,h0]
theorem c_ref08_node (op n:Int) (s:qac) (args:List Ex) (d:Nat):APure Tryz.prog 262 [.agg [I op,I n,S s,.slice (args.map Ex.c)],I d] (I (qcj op n s args.length d)):=by
 refine qap Tryz.func262 Tryz.ntmps262 rfl (by kernel_rfl) rfl rfl fun E h hN hh hu hb=>?_;simp -dsimp [go_sem,hN];refine qaa (c_ref08_Arity _) ?_;simp -dsimp [go_sem,hN]
 repeat refine ⟨by grind,?_⟩
 refine cnd (fun h0=>?_) (fun h0=>?_)
 ·
  simp -dsimp [go_sem,hN];simp at h0;rw [qcj,if_pos (by grind)]
 have h0':¬ (qb6 op<0∨(op≠1∧n≠0)∨(op≠2∧op≠3∧s≠em)):=by simp at h0;grind
 simp -dsimp [go_sem,hN];refine qaf (c_ref07_IsName s) (by simp) ?_;simp -dsimp [go_sem,hN];refine cnd (fun h1=>?_) (fun h1=>?_)
 ·
  simp -dsimp [go_sem,hN];simp at h1;rw [qcj,if_neg h0',if_pos (by grind)]
 have h1':¬ (op=3∧nameOk s=false):=by simp at h1;grind
 simp -dsimp [go_sem,hN];refine qak 21 mixed (by kernel_rfl) (by kernel_rfl) ?_;simp -dsimp [go_sem,hN];refine qa9 (c_ref08_Plain s) (by simp) ?_;simp -dsimp [go_sem,hN];refine ⟨by grind,?_⟩;refine qa9 (c_ref08_Arity op) (by simp) ?_;simp -dsimp [go_sem,hN]
 repeat refine ⟨by grind,?_⟩
 refine cnd (fun h2=>?_) (fun h2=>?_)
 ·
  simp -dsimp [go_sem,hN];simp at h2;rw [qcj,if_neg h0',if_neg h1',if_pos (by grind)]
 have h2':¬ ((op=1∧n<0)∨(op=2∧qb1 s=false)∨(args.length:Int)≠qb6 op):=by simp at h2;grind
 simp -dsimp [go_sem,hN];refine cnd ?_ ?_<;>intro h3<;>simp at h3
 ·
  simp -dsimp [go_sem,hN];rw [qcj,if_neg h0',if_neg h1',if_neg h2',if_pos (by omega)]
 ·
  simp -dsimp [go_sem,hN];rw [qcj,if_neg h0',if_neg h1',if_neg h2',if_neg (by omega)]
theorem c_ref08_valid (e:Ex) (d:Nat):APure Tryz.prog 228 [.agg e.x,I d] (I (chkE e d)):=by
 refine qap Tryz.func228 Tryz.ntmps228 rfl (by kernel_rfl) rfl rfl fun E h hN hh hu hb=>?_;simp [go_sem] at hb;simp -dsimp [go_sem,hN];refine qaa (c_ref08_node _ _ _ _ _) ?_;simp -dsimp [go_sem,hN];refine cnd ?_ ?_<;>intro h0<;>simp at h0
 ·
  simp -dsimp [go_sem,hN];rw [chkE_eq,if_neg h0]
 have hd:d≤12:=by
  unfold qcj at h0;grind
 simp -dsimp [go_sem,hN];refine qao e.args.length (fun n=>chkL (e.args.drop n) (d+1)=chkL e.args (d+1)) (fun n=>⟨[(1,I d),(2,.ptr h.length 0),(6,I n)],h++[.cells e.x]⟩) (by simp) wkA ?_;intro n hn hI;have hw:=qa3 hn hb.2.1;have hw2:IntKind.i64.wrap ((d:Int)+1)=((d+1:Nat):Int):=by rw [wrapI (by omega) (by omega)];rfl
 simp -dsimp [go_sem,hN];refine cnd ?_ ?_<;>intro hc<;>simp at hc
 ·
  rw [qae hc,chkL] at hI;simp -dsimp [go_sem,hN,hc,hw2];have hlt:SizeOf.sizeOf e.args[n]<SizeOf.sizeOf e:=Ex.arg_lt (List.getElem_mem hc);refine qaa (c_ref08_valid e.args[n] (d+1)) ?_;simp -dsimp [go_sem,hN];refine cnd ?_ ?_<;>intro hg<;>simp at hg
  ·
   simp -dsimp [go_sem,hN];rw [chkE_eq e,if_pos h0,← hI,if_neg hg]
  ·
   simp -dsimp [go_sem,hN,hw];exact ⟨hc,by simpa [hg] using hI,wkA⟩
 ·
  rw [List.drop_eq_nil_of_le (by omega),chkL] at hI;simp -dsimp [go_sem,hN];rw [chkE_eq e,if_pos h0,← hI]
termination_by SizeOf.sizeOf e
theorem qda (e:Ex):APure Tryz.prog 188 [.agg e.x] (I (chkE e 1)):=by
 refine qap Tryz.func188 Tryz.ntmps188 rfl (by kernel_rfl) rfl rfl fun E h hN hh hu hb=>?_;simp -dsimp [go_sem,hN];refine qaa (c_ref08_valid e 1) ?_;simp -dsimp [go_sem,hN]
def usesR (op:Int):Uses :=
 if op=1∨op=2 then ⟨true,true,false,false,false,false⟩
 else if op=3 then ⟨false,true,true,false,false,false⟩
 else if op=4∨op=7 then ⟨false,true,false,false,false,false⟩
 else if op=5 then ⟨false,true,false,false,true,true⟩
 else if op=6 then ⟨true,true,true,true,true,false⟩
 else ⟨false,false,false,true,false,false⟩
theorem c_ref08_uses (op:Int):APure Tryz.prog 186 [I op] (.tuple [Bo (usesR op).name,Bo (usesR op).max,Bo (usesR op).a,Bo (usesR op).b,Bo (usesR op).body,Bo (usesR op).other]):=by
 refine qap Tryz.func186 Tryz.ntmps186 rfl (by kernel_rfl) rfl rfl fun E h hN hh hu hb=>?_;by_cases h1:op=1
 · subst h1;simp -dsimp [go_sem,hN,usesR]
 by_cases h2:op=2
 · subst h2;simp -dsimp [go_sem,hN,usesR]
 by_cases h3:op=3
 · subst h3;simp -dsimp [go_sem,hN,usesR]
 by_cases h4:op=4
 · subst h4;simp -dsimp [go_sem,hN,usesR]
 by_cases h7:op=7
 · subst h7;simp -dsimp [go_sem,hN,usesR]
 by_cases h5:op=5
 · subst h5;simp -dsimp [go_sem,hN,usesR]
 by_cases h6:op=6
 · subst h6;simp -dsimp [go_sem,hN,usesR]
 simp -dsimp [go_sem,hN,usesR,h1,h2,h3,h4,h5,h6,h7]
end Go.Proofs.YtilhejdbiionhaaGreatDoor

set_option maxRecDepth 4000
set_option maxHeartbeats 2000000
namespace Go.Proofs.YtilhejdbiionhaaGreatDoor
open Go Go.Abs Go.Cw
end Go.Proofs.YtilhejdbiionhaaGreatDoor

set_option maxRecDepth 4000
set_option maxHeartbeats 2000000
namespace Go.Proofs.YtilhejdbiionhaaGreatDoor
open Go Go.Abs Go.Cw
section
attribute [local go_sem] RM.c
variable (C:Cfg)
end
end Go.Proofs.YtilhejdbiionhaaGreatDoor

set_option maxRecDepth 8000
set_option maxHeartbeats 2000000
namespace Go.Proofs.YtilhejdbiionhaaGreatDoor
open Go Go.Abs Go.Cw
variable {tT:TypeId} {tx:Nat×Nat} {g:Nat}
end Go.Proofs.YtilhejdbiionhaaGreatDoor

set_option maxRecDepth 8000
set_option maxHeartbeats 2000000
namespace Go.Proofs.YtilhejdbiionhaaGreatDoor
open Go Go.Abs Go.Cw
variable {tT:TypeId} {tx:Nat×Nat} {g:Nat}
def runC (p:Proc) (args:List V) (ft:Foot):List AV:=[S p.name,.slice (p.params.map Param.c),.slice (p.body.map St.c),.slice (args.map V.c),Bo ft.all,.slice (ft.reads.map qa1),.slice (ft.writes.map qa1)]
attribute [local go_sem] runC
end Go.Proofs.YtilhejdbiionhaaGreatDoor

set_option maxRecDepth 8000
set_option maxHeartbeats 2000000
namespace Go.Proofs.YtilhejdbiionhaaGreatDoor
open Go Go.Abs Go.Cw
variable {tT:TypeId} {tx:Nat×Nat} {g:Nat}
attribute [local go_sem] runC
end Go.Proofs.YtilhejdbiionhaaGreatDoor

set_option maxRecDepth 4000
set_option maxHeartbeats 4000000
namespace Go.Proofs.YtilhejdbiionhaaGreatDoor
open Go Go.Abs Go.Cw
section
attribute [local go_sem] RM.c
variable (C:Cfg)
end
end Go.Proofs.YtilhejdbiionhaaGreatDoor

set_option maxRecDepth 4000
set_option maxHeartbeats 4000000
namespace Go.Proofs.YtilhejdbiionhaaGreatDoor
open Go Go.Abs Go.Cw
section
attribute [local go_sem] RM.c
variable (C:Cfg) (hC:rngC C) (hf:∀ n,i64 n→qb1 (C.fmt n)=true) (hF:∀ n,i64 n→APure Tryz.prog 287 [I n] (S (C.fmt n)))
include hC hf hF
end
end Go.Proofs.YtilhejdbiionhaaGreatDoor

set_option maxRecDepth 4000
set_option maxHeartbeats 400000
namespace Go.Proofs.YtilhejdbiionhaaGreatDoor
open Go Go.Abs Go.Cw
section
attribute [local go_sem] RM.c
variable (C:Cfg) (hC:rngC C) (hf:∀ n,i64 n→qb1 (C.fmt n)=true) (hF:∀ n,i64 n→APure Tryz.prog 287 [I n] (S (C.fmt n)))
include hC hf hF
end
end Go.Proofs.YtilhejdbiionhaaGreatDoor

set_option maxRecDepth 4000
set_option maxHeartbeats 4000000
namespace Go.Proofs.YtilhejdbiionhaaGreatDoor
open Go Go.Abs Go.Cw
section
attribute [local go_sem] RM.c
variable (C:Cfg) (hC:rngC C) (hf:∀ n,i64 n→qb1 (C.fmt n)=true) (hF:∀ n,i64 n→APure Tryz.prog 287 [I n] (S (C.fmt n)))
include hC hf hF
end
end Go.Proofs.YtilhejdbiionhaaGreatDoor

set_option maxRecDepth 4000
set_option maxHeartbeats 4000000
namespace Go.Proofs.YtilhejdbiionhaaGreatDoor
open Go Go.Abs Go.Cw
section
attribute [local go_sem] RM.c
variable (C:Cfg) (hC:rngC C) (hf:∀ n,i64 n→qb1 (C.fmt n)=true) (hF:∀ n,i64 n→APure Tryz.prog 287 [I n] (S (C.fmt n)))
include hC hf hF
end
end Go.Proofs.YtilhejdbiionhaaGreatDoor
