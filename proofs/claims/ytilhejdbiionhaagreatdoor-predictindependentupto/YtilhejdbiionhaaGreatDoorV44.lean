/- Part 44 of a proof: W146, W147, W148, OP, LB, OC -/
import Derived.Test.YtilhejdbiionhaaGreatDoorRows
import Derived.KernelRfl
import Derived.Test.YtilhejdbiionhaaGreatDoorCards
import Derived.Test.YtilhejdbiionhaaGreatDoorTie
import Derived.ProofKit
import Derived.OpenShut
import Derived.Carry
import Derived.Deep.DeepHandedRow
import Derived.Lib.LaidTab
import Derived.Stop.LaidErr
import Derived.Test.YtilhejdbiionhaaGreatDoorV21
import Derived.Test.YtilhejdbiionhaaGreatDoorV25
import Derived.Test.YtilhejdbiionhaaGreatDoorV33
import Derived.Test.YtilhejdbiionhaaGreatDoorV38
import Derived.Test.YtilhejdbiionhaaGreatDoorV42
import Derived.Test.YtilhejdbiionhaaGreatDoorV43
set_option linter.all false

set_option maxRecDepth 4000
set_option maxHeartbeats 4000000
namespace Go.Proofs.YtilhejdbiionhaaGreatDoor
open Go Go.Abs Go.Cw
structure DH (p:Proc) (z c:Nat) (K:List qac→qab) (n0:Nat):Prop where
 len:∀ C,(K C).length=n0
 hz:z<n0
 hc:c<n0
 lz:∀ C,(K C)[z]?=some (.cells (dfC p c))
 lc:∀ C,(K C)[c]?=some (setO C)
 sc:∀ C D,(K C).set c (setO D)=K D
 und:∀ C,hUnder n0 (K C)=true
section
variable {p:Proc} {z c:Nat} {K:List qac→qab} {n0:Nat}
theorem DH.gl (Y:DH p z c K n0) {i:Nat} (hi:i<n0) (C:List qac) (l:qab):(K C++l)[i]?=(K C)[i]?:=List.getElem?_append_left (by rw [Y.len];exact hi)
theorem DH.lz' (Y:DH p z c K n0) (C:List qac) (l:qab):(K C++l)[z]?=some (.cells (dfC p c)):=by rw [Y.gl Y.hz,Y.lz]
theorem DH.lc' (Y:DH p z c K n0) (C:List qac) (l:qab):(K C++l)[c]?=some (setO C):=by rw [Y.gl Y.hc,Y.lc]
theorem DH.sc' (Y:DH p z c K n0) (C D:List qac) (l:qab):(K C++l).set c (setO D)=K D++l:=by rw [List.set_append_left _ _ (by rw [Y.len];exact Y.hc),Y.sc]
theorem DH.loc (Y:DH p z c K n0) (C:List qac) (k:Nat) (l:qab):(K C++l)[n0+k]?=l[k]?:=by rw [List.getElem?_append_right (by rw [Y.len];omega),Y.len,show n0+k - n0=k by omega]
theorem DH.loc0 (Y:DH p z c K n0) (C:List qac) (l:qab):(K C++l)[n0]?=l[0]?:=Y.loc C 0 l
theorem DH.undA (Y:DH p z c K n0) (C:List qac) (l:qab) (k:Nat):hUnder (n0+k) (K C++l)=hUnder (n0+k) l:=by rw [qan,qas (by omega) (Y.und C)];rfl
theorem DH.ext (Y:DH p z c K n0) (L:qab) (hL:hUnder (n0+L.length) L=true):DH p z c (fun C=>K C++L) (n0+L.length) where
 len:=fun s=>by rw [List.length_append,Y.len]
 hz:=by have:=Y.hz;omega
 hc:=by have:=Y.hc;omega
 lz:=fun C=>Y.lz' C L
 lc:=fun C=>Y.lc' C L
 sc:=fun C D=>Y.sc' C D L
 und:=fun C=>by rw [qan,qas (by omega) (Y.und C),hL];rfl
theorem kvDel_bo (l:List qac) (s:qac):AObj.map (qbv (kvDel (l.map ((fun p:qac×Bool=>(p.1,boAV p.2))∘fun s=>(s,true))) s))=setO (delS l s):=by
 rw [← List.map_map];show AObj.map (qbv (kvDel ((tru l).map fun p=>(p.1,boAV p.2)) s))=_;rw [kvDel_map,kDel_tru]
theorem c_df_block (l:List St) {K:List qac→qab} {n0:Nat} (Y:DH p z c K n0) (u:Bool) (C:List qac) :
  ACalls Tryz.prog 88 [.ptr z 0,.slice (l.map St.c),Bo u] (K C) fun r h'=>r=.ret (.tuple [])∧h'=K (tntL l u C):=by
 refine qaq Tryz.func88 Tryz.ntmps88 rfl (by kernel_rfl) rfl fun E hN hh hu hb hb' hua=>?_;simp [go_sem] at hb;have hz:=Y.hz;have hcc:=Y.hc;obtain ⟨R0,hR0⟩:∃ R0,tntL l u C=R0:=⟨_,rfl⟩
 rw [hR0];simp -dsimp [go_sem,hN];refine qat (α:=List qac) l.length (fun n D=>tntL (l.drop n) u D=R0) (fun n D=>⟨[(0,.ptr z 0),(2,Bo u),(10,.slice (l.map St.c)),(11,I l.length),(12,I n)],K D⟩) C (by simpa using hR0) (Wk.mk (by simp [hh]) (by simp [hwk.refl]) (by simp [Y.len,Y.und]) (by simp [go_sem,Y.len];omega)) ?_;rintro n D hn hI;have hw:=qa3 hn (show l.length≤68719476736 by omega);simp -dsimp [go_sem,hN];refine cnd ?_ ?_<;>intro hc<;>simp at hc
 rotate_left
 ·
  rw [List.drop_eq_nil_of_le (by omega),tntL] at hI;subst hI;simp -dsimp [go_sem,hN];exact ⟨_,.refl _,K D,by simp [go_sem],hwk.refl _,by simp [Y.len],by simp [Y.len,Y.und],rfl,rfl⟩
 rw [qae hc,tntL] at hI;have hlt:SizeOf.sizeOf l[n]<SizeOf.sizeOf l:=List.sizeOf_lt_of_mem (List.getElem_mem hc);have hlB:=St.body_sz l[n];have hlE:=St.els_sz l[n];simp -dsimp [go_sem,hN,hc,Y.len,Y.loc0];refine qaj (qdv l[n].a D p z c _ (Y.lz' D _) (Y.lc' D _)) ?_;rintro r h' ⟨rfl,rfl⟩;simp -dsimp [go_sem,hN,Y.len,Y.loc0]
 repeat refine ⟨by grind,?_⟩
 refine qa0 (fun _=>qdv l[n].b D p z c _ (Y.lz' D _) (Y.lc' D _)) (by simp) ?_ (fun h=>h);simp -dsimp [go_sem,hN,Y.len,Y.loc0]
 repeat refine ⟨by grind,?_⟩
 rw [tntS_eq] at hI;have hd:dirtyT D l[n]=(tntE D l[n].a||decide (l[n].op=6)&&tntE D l[n].b):=rfl;rw [hd] at hI;obtain ⟨d,hd'⟩:∃ d,(tntE D l[n].a||decide (l[n].op=6)&&tntE D l[n].b)=d:=⟨_,rfl⟩
 rw [hd'] at hI;simp only [hd'];have hx:hUnder (n0 + [AObj.cells l[n].x].length) [AObj.cells l[n].x]=true:=by simp [go_sem]
 refine cnd ?_ ?_<;>intro h1<;>simp at h1
 ·
  rw [if_pos ⟨by simpa [em] using h1.1,h1.2⟩] at hI;refine qak 6 mixed (by kernel_rfl) (by kernel_rfl) ?_;simp -dsimp [go_sem,hN,Y.lz',Y.lc',Y.len,Y.loc0,kvDel_bo,Y.sc'];refine ⟨fun h=>⟨h,fun k=>⟨h,k⟩⟩,?_⟩;refine qaj (c_df_block l[n].body (Y.ext [.cells l[n].x] hx) (u||brOp l[n].op&&d) (delS D l[n].name)) ?_;rintro r h' ⟨rfl,rfl⟩;simp -dsimp [go_sem,hN,Y.lz',Y.lc',Y.len,Y.loc0];refine ⟨fun h=>⟨h,fun k=>⟨h,k⟩⟩,?_⟩;refine qaj (c_df_block l[n].els (Y.ext [.cells l[n].x] hx) (u||brOp l[n].op&&d) _) ?_;rintro r h' ⟨rfl,rfl⟩;simp -dsimp [go_sem,hN,Y.lz',Y.lc',Y.len,Y.loc0,hw];exact ⟨hc,_,hI,Wk.mk (by simp [hh,Y.len]) (by simp [go_sem]) (by rw [Y.len,Y.und]) (by simp [go_sem,Y.len];omega)⟩
 ·
  rw [if_neg (by rintro ⟨g1,g2⟩;have:=h1 g1;grind)] at hI;simp -dsimp [go_sem,hN,Y.lz',Y.lc',Y.len,Y.loc0];refine ⟨fun h=>⟨h,fun k=>⟨h,k⟩⟩,?_⟩;refine qaj (c_df_block l[n].body (Y.ext [.cells l[n].x] hx) (u||brOp l[n].op&&d) D) ?_;rintro r h' ⟨rfl,rfl⟩;simp -dsimp [go_sem,hN,Y.lz',Y.lc',Y.len,Y.loc0];refine ⟨fun h=>⟨h,fun k=>⟨h,k⟩⟩,?_⟩;refine qaj (c_df_block l[n].els (Y.ext [.cells l[n].x] hx) (u||brOp l[n].op&&d) _) ?_;rintro r h' ⟨rfl,rfl⟩;simp -dsimp [go_sem,hN,Y.lz',Y.lc',Y.len,Y.loc0,hw];exact ⟨hc,_,hI,Wk.mk (by simp [hh,Y.len]) (by simp [go_sem]) (by rw [Y.len,Y.und]) (by simp [go_sem,Y.len];omega)⟩
termination_by SizeOf.sizeOf l
decreasing_by all_goals omega
end
end Go.Proofs.YtilhejdbiionhaaGreatDoor

set_option maxRecDepth 8000
set_option maxHeartbeats 4000000
namespace Go.Proofs.YtilhejdbiionhaaGreatDoor
open Go Go.Abs Go.Cw
abbrev dfH (p:Proc) (h:qab) (C:List qac):qab:=h++[.cells p.c,setO C,.cells (dfC p (h.length+1))]
@[go_sem] theorem liftK_nilp:liftK (.pointer none)=.val (.pointer none):=rfl
theorem setO_und (n:Nat) (C:List qac):(setO C).under n=true:=kAV_und (fun n a=>by simp [boAV,go_sem]) n (tru C)
theorem dh_of (p:Proc) {h:qab} (hu:hUnder h.length h=true):DH p (h.length+2) (h.length+1) (dfH p h) (h.length+3) where
 len:=fun C=>by simp
 hz:=by omega
 hc:=by omega
 lz:=fun C=>by simp
 lc:=fun C=>by simp
 sc:=fun C D=>by simp
 und:=fun C=>by
  rw [qal hu];simp only [hUnder,setO_und];simp [AObj.under,AV.under,qam,Proc.c]
theorem c_df_analyze (p:Proc) (hv:p.params.length≤34359738368) (hnl:(qcf p).length≤68719476736) (h:qab) :
  ACalls Tryz.prog 58 [.agg p.c] h fun r h'=>r=.ret (.ptr (h.length+2) 0)∧h'=dfH p h (cleanP p):=by
 refine qaq Tryz.func58 Tryz.ntmps58 rfl (by kernel_rfl) rfl fun E hN hh hu hb hb' hua=>?_;have Y:=dh_of p hu;simp -dsimp [go_sem,hN];refine qaa (c_ast_Names p hv) ?_;simp -dsimp [go_sem,hN];refine qat (α:=List qac) (qcf p).length (fun n C=>((qcf p).drop n).foldl addS C=clean0 p) (fun n C=>⟨[(1,.ptr h.length 0),(3,.ptr (h.length+2) 0),(12,.slice ((qcf p).map qa1)),(13,I (qcf p).length),(14,I n)],dfH p h C⟩) [] rfl (Wk.mk (by simp [hh]) (hwk.refl (dfH p h [])) (by rw [Y.len];exact Y.und _) (by simp [go_sem])) ?_;rintro n C hn hI;have hw:=qa3 hn hnl;simp -dsimp [go_sem,hN];refine cnd ?_ ?_<;>intro hc<;>simp at hc
 ·
  rw [qae hc,List.foldl_cons] at hI;simp -dsimp [go_sem,hN,hc,hw];refine ⟨_,hI,Wk.mk (by simp [hh]) ?_ (by rw [Y.len];exact Y.und _) (by simp [go_sem])⟩;rw [show (AObj.map (qbv (kvSet (C.map ((fun p:qac×Bool=>(p.1,boAV p.2))∘fun s=>(s,true))) (qcf p)[n] (.val (.bool true)))))=setO (addS C (qcf p)[n]) from by rw [← List.map_map];exact congrArg _ (kvSet_bo C (qcf p)[n])];show hwk _ (h++_);simp [hwk.refl,Proc.c]
 rw [List.drop_eq_nil_of_le (by omega),List.foldl_nil] at hI;subst hI;simp -dsimp [go_sem,hN];refine awp_loopM (α:=Int×List qac) (fun x=>∃ m,x.2.length<m∧(x.1≠x.2.length→fixC p.body m x.2=cleanP p)∧(x.1=x.2.length→x.2=cleanP p)∧x.2.length≤(clean0 p).length) (fun x=>⟨[(1,.ptr h.length 0),(3,.ptr (h.length+2) 0),(6,I x.1)],dfH p h x.2⟩) (fun x=>if x.1=x.2.length then 0 else x.2.length+1) (-1,clean0 p) ⟨(clean0 p).length+1,by simp,fun _=>rfl,fun h=>by simp only at h;omega,Nat.le_refl _⟩ (Wk.mk (by simp [hh]) (hwk.refl (dfH p h (clean0 p))) (by rw [Y.len];exact Y.und _) (by simp [go_sem])) ?_;rintro ⟨b,C⟩ ⟨m,hm,h1,h2,h3⟩;dsimp only at hm h1 h2 h3;have hlC:(kAV boAV (tru C)).length=C.length:=by simp [kAV,qbv]
 simp -dsimp [go_sem,hN];rw [hlC];refine cnd ?_ ?_<;>intro hc<;>simp at hc
 rotate_left
 ·
  have h2':=h2 hc;subst h2';simp -dsimp [go_sem,hN];exact ⟨_,.refl _,dfH p h (cleanP p),by simp [go_sem],hwk.refl _,by simp,by rw [Y.len];exact Y.und _,rfl,rfl⟩
 simp -dsimp [go_sem,hN];refine qaj (c_df_block p.body Y false C) ?_;rintro r h' ⟨rfl,rfl⟩;simp -dsimp [go_sem,hN];rw [hlC];obtain ⟨m,rfl⟩:∃ k,m=k+1:=⟨m - 1,by omega⟩
 have h4:=h1 hc;rw [fixC] at h4;have h5:=(tntL_sub p.body false C).length_le;refine ⟨C.length,tntL p.body false C,⟨if (tntL p.body false C).length=C.length then (tntL p.body false C).length+1 else m,?_,fun h=>?_,fun h=>?_,by omega⟩,?_,Wk.mk (by simp [hh]) (hwk.refl _) (by rw [Y.len];exact Y.und _) (by simp [go_sem])⟩
 · split<;>omega
 ·
  have h6:(tntL p.body false C).length≠C.length:=by omega
  rw [if_neg h6] at h4 ⊢;exact h4
 ·
  have h6:(tntL p.body false C).length=C.length:=by omega
  rw [if_pos h6] at h4;exact h4
 ·
  rw [if_neg hc];split<;>omega
theorem names_le {p:Proc} (h:qb3 p=0):(qcf p).length≤68719476736∧p.params.length≤34359738368:=by
 have h0:qb7 p=0:=by
  unfold qb3 at h;split at h
  · rename_i hv;exact (hv h).elim
  · rename_i hv;simpa using hv
 have hp:p.params.length≤8:=by
  unfold qb7 at h0;split at h0
  · cases h0
  split at h0
  · rename_i h1;exact (h1 h0).elim
  ·
   rename_i h1;simp only [ne_eq,Decidable.not_not] at h1;unfold paramsE at h1;split at h1
   · cases h1
   · omega
 have:=blkW_K qd4 qby List.length nameS_len (fun s _=>by simp [qby]) p.body 1 (401,p.params.map (·.name))
 simp only [List.length_map] at this;unfold qcf;omega
theorem c_df_Independent (p:Proc) (ht:qb3 p=0) (h:qab):ACalls Tryz.prog 23 [.agg p.c] h fun r h'=>r=.ret (Bo (indepS p))∧h'=h:=by
 refine qaq Tryz.func23 Tryz.ntmps23 rfl (by kernel_rfl) rfl fun E hN hh hu hb hb' hua=>?_;obtain ⟨hnl,hv⟩:=names_le ht;have han:=c_df_analyze p hv hnl;simp -dsimp [go_sem,hN];refine awp_drawKB 8 5 [6,7] mixed (by kernel_rfl) ?_;simp -dsimp [go_sem,hN];refine qa9 (c_types_Check p) (by simp) ?_;simp -dsimp [go_sem,hN,ht];refine trcall (han _) ?_;simp -dsimp [go_sem,hN];refine qa0 (fun _=>c_df_keys p.body (cleanP p) p (h.length+1+2) (h.length+1+1) _ (by simp [Nat.add_assoc]) (by simp [Nat.add_assoc])) (by simp) ?_ (fun h=>h);simp -dsimp [go_sem,hN];exact ⟨_,.refl _,h,by simp [go_sem],hwk.app0 _,Nat.le_refl _,hu,rfl,rfl⟩
theorem c_df_ControlTainted (p:Proc) (ht:qb3 p=0) (h:qab):ACalls Tryz.prog 24 [.agg p.c] h fun r h'=>r=.ret (Bo (ctrlS p))∧h'=h:=by
 refine qaq Tryz.func24 Tryz.ntmps24 rfl (by kernel_rfl) rfl fun E hN hh hu hb hb' hua=>?_;obtain ⟨hnl,hv⟩:=names_le ht;have han:=c_df_analyze p hv hnl;simp -dsimp [go_sem,hN];refine awp_drawKB 8 5 [6,7] mixed (by kernel_rfl) ?_;simp -dsimp [go_sem,hN];refine qa9 (c_types_Check p) (by simp) ?_;simp -dsimp [go_sem,hN,ht];refine trcall (han _) ?_;simp -dsimp [go_sem,hN];refine qa0 (fun _=>c_df_branches p.body (cleanP p) p (h.length+1+2) (h.length+1+1) _ (by simp [Nat.add_assoc]) (by simp [Nat.add_assoc])) (by simp) ?_ (fun h=>h);simp -dsimp [go_sem,hN];exact ⟨_,.refl _,h,by simp [go_sem],hwk.app0 _,Nat.le_refl _,hu,rfl,rfl⟩
end Go.Proofs.YtilhejdbiionhaaGreatDoor

set_option maxRecDepth 8000
set_option maxHeartbeats 4000000
namespace Go.Proofs.YtilhejdbiionhaaGreatDoor
open Go Go.Abs Go.Cw
variable {tT:TypeId} {tx:Nat×Nat} {g:Nat}
theorem cost_type {p:Proc} (h:qbn p=0):qb3 p=0:=by
 have h1:=cost_det h;unfold detErr at h1;split at h1
 · rename_i h2;exact (h2 h1).elim
 · rename_i h2;simpa using h2
theorem c_law20_Independent (p:Proc) (args:List V) (h:qab) (hg:h[g]?=some (tabO tT tx)) (hI:RunIn qbo p args []) :
  ACalls Tryz.prog 7 [.agg p.c,.slice (args.map V.c)] h fun r h'=>r=.ret (Bo true)∧h'=h:=by
 refine qaq Tryz.func7 Tryz.ntmps7 rfl (by kernel_rfl) rfl fun E hN hh hu hb hb' hua=>?_;have hgl:g<h.length:=(List.getElem?_eq_some_iff.1 hg).1;have hg':∀ l:qab,(h++l)[g]?=some (tabO tT tx):=fun l=>by rw [List.getElem?_append_left hgl];exact hg
 have hs:=fun H hH=>c_pr_Static (g:=g) (tT:=tT) (tx:=tx) p args H hH hI;have harg:=stat_arg (fmt:=qbo) (p:=p) (args:=args);have hind:=ind_err (fmt:=qbo) (p:=p) (args:=args);obtain ⟨⟨f1,e1⟩,hS⟩:∃ R,statS qbo p args=R:=⟨_,rfl⟩
 rw [hS] at hs harg hind;dsimp only at hs harg hind;simp -dsimp [go_sem,hN];refine qaj (c_law20_few p args [] _) ?_;rintro r h' ⟨⟨b,rfl⟩,rfl⟩;simp -dsimp [go_sem,hN];refine cnd (fun h1=>?_) (fun h1=>?_)
 ·
  simp -dsimp [go_sem,hN];refine qaj (qd7 _ (hg' _)) ?_;rintro r h' ⟨rfl,rfl⟩;simp -dsimp [go_sem,hN];exact ⟨_,.refl _,h,by simp [go_sem],hwk.app0 _,Nat.le_refl _,hu,rfl,rfl⟩
 simp -dsimp [go_sem,hN];refine qaj (hs _ (hg' _)) ?_;rintro r h' ⟨rfl,rfl⟩;simp -dsimp [go_sem,hN,Foot.c];refine qaa (c_ref13_Check p) ?_;simp -dsimp [go_sem,hN];refine qaf (c_ref11_Args p args) (by simp) ?_;simp -dsimp [go_sem,hN];refine cnd ?_ ?_<;>intro h2<;>simp at h2
 ·
  have he:e1=1:=harg.2 h2;subst he;simp -dsimp [go_sem,hN];refine qa0 (fun _=>qd7 _ (hg' _)) (by simp) ?_ (fun h=>h);simp -dsimp [go_sem,hN];exact ⟨_,.refl _,h,by simp [go_sem],hwk.app0 _,Nat.le_refl _,hu,rfl,rfl⟩
 obtain ⟨hc0,ha0⟩:=h2;have ht:=cost_type hc0;have he1:e1≠1:=fun h=>by rcases harg.1 h with h | h<;>omega
 simp -dsimp [go_sem,hN];refine qaj (c_df_Independent p ht _) ?_;rintro r h' ⟨rfl,rfl⟩;simp -dsimp [go_sem,hN];refine qa0 (fun _=>c_df_ControlTainted p ht _) (by simp) ?_ (fun h=>h);simp -dsimp [go_sem,hN];refine cnd ?_ ?_<;>intro h2<;>simp at h2
 ·
  rcases hind hc0 ha0 h2.1 h2.2 with rfl | rfl
  ·
   simp -dsimp [go_sem,hN];refine qa0 (fun _=>qd7 _ (hg' _)) (by simp) ?_ (fun h=>h);simp -dsimp [go_sem,hN];exact ⟨_,.refl _,h,by simp [go_sem],hwk.app0 _,Nat.le_refl _,hu,rfl,rfl⟩
  ·
   simp -dsimp [go_sem,hN];refine qa0 (fun _=>qd7 _ (hg' _)) (by simp) ?_ (fun h=>h);simp -dsimp [go_sem,hN];exact ⟨_,.refl _,h,by simp [go_sem],hwk.app0 _,Nat.le_refl _,hu,rfl,rfl⟩
 ·
  simp -dsimp [go_sem,hN,he1];refine qa0 (fun _=>qd7 _ (hg' _)) (by simp) ?_ (fun h=>h);simp -dsimp [go_sem,hN];exact ⟨_,.refl _,h,by simp [go_sem],hwk.app0 _,Nat.le_refl _,hu,rfl,rfl⟩
end Go.Proofs.YtilhejdbiionhaaGreatDoor

set_option maxRecDepth 8000
namespace Go.Proofs.YtilhejdbiionhaaGreatDoor
open Go Go.Abs Go.Cw
section
variable {H:Type} {enc:TypeId×Value→H} {w:World}
theorem bulk_part {d:DataW H} {l:List (DataW H)} (h:d∈l):Rows.uptoBulk d≤Rows.uptoBulkAll l:=by
 induction l with
 | nil=>cases h
 | cons x r ih =>
  simp only [Rows.uptoBulkAll];rcases List.mem_cons.1 h with rfl | e
  · omega
  · have:=ih e;omega
theorem bulk_one (d:DataW H):1≤Rows.uptoBulk d:=by
 cases d with
 | lit l=>cases l<;>simp [Rows.uptoBulk]
 | nil=>simp [Rows.uptoBulk]
 | ptr d=>simp [Rows.uptoBulk]
 | slice elems spare=>simp [Rows.uptoBulk]
 | agg parts=>simp [Rows.uptoBulk]
 | iface t d=>simp [Rows.uptoBulk]
 | map entries=>simp [Rows.uptoBulk]
 | held h=>simp [Rows.uptoBulk]
theorem bulk_len (l:List (DataW H)):l.length≤Rows.uptoBulkAll l:=by
 induction l with
 | nil=>simp [Rows.uptoBulkAll]
 | cons x r ih=>have:=bulk_one x;simp only [Rows.uptoBulkAll,List.length_cons];omega
theorem bulkB:Bulk (H:=H) Rows.uptoBulk where
 str:=fun s=>by simp [Rows.uptoBulk]
 len:=fun e s=>by have:=bulk_len e;simp only [Rows.uptoBulk];omega
 sl:=fun e s x hx=>by have:=bulk_part hx;simp only [Rows.uptoBulk];omega
 agg:=fun ps x hx=>by have:=bulk_part hx;simp only [Rows.uptoBulk];omega
abbrev UB:Nat:=1048576
variable (enc w) in
abbrev RD (n:Nat) (t:TypeId) (Q:List AV→Prop):Prop:=Rd enc Tryz.prog w Rows.uptoBulk UB n t Q
theorem ub_le:UB≤68719476736:=by decide
def rOf {α:Type} (c:α→List AV) (good:α→Prop) (xs:List AV):Prop:=∃ a,xs=c a∧good a
def gStr (s:qac):Prop:=s.size≤UB
def gSl {α:Type} (good:α→Prop) (l:List α):Prop:=l.length≤UB∧∀ a∈l,good a
def qOf {α:Type} (c:α→List AV) (good:α→Prop) (xs:List AV):Prop:=rOf (fun l:List α=>[.slice (l.map c)]) (gSl good) xs
theorem rd_of {n:Nat} {t e:TypeId} (ht:Tryz.prog.underlying t=some (.slice e)) {sz:Nat} (hsz:Tryz.prog.cellsOf e=sz) (h0:0<sz) {α:Type} {c:α→List AV} {good:α→Prop} (hl:∀ a,(c a).length=sz) (he:RD enc w n e (rOf c good)):RD enc w n t (qOf c good):=by
 refine (rd_slice bulkB ub_le ht hsz h0 (by rintro _ ⟨a,rfl,_⟩;exact hl a) he).mono ?_;rintro _ ⟨rows,rfl,hlen,hq⟩;obtain ⟨l,rfl,hg⟩:=rows_list hq;exact ⟨l,rfl,by simpa using hlen,hg⟩
theorem len_of {α:Type} {c:α→List AV} {good:α→Prop}:∀ xs,qOf c good xs→xs.length=1:=by rintro _ ⟨l,rfl,_⟩;rfl
theorem rd_I {n:Nat}:RD enc w n 3 (qInt .i64):=rd_int (by decide) Tryz.underlying3
theorem rd_I64 {n:Nat}:RD enc w n 2 (qInt .i64):=rd_int (by decide) Tryz.underlying2
theorem rd_S {n:Nat}:RD enc w n 9 (qStr UB):=rd_str bulkB ub_le Tryz.underlying9
theorem i64_of {z:Int} (h:IntKind.i64.min≤z∧z≤IntKind.i64.max):i64 z:=⟨h.1,h.2⟩
theorem rd_V:∀ {n:Nat},RD enc w n 54 (rOf V.c rngV)
 | 0=>Rd.zero
 | n+1=>by
  refine (rd_struct (Qs:=[qInt .i64,qInt .i64,qStr UB]) bulkB Tryz.underlying54 ?_).mono ?_
  ·
   simp only [Flds];exact ⟨(by first | rfl | trivial),1,by kernel_rfl,rd_I,len_int,(by first | rfl | trivial),1,by kernel_rfl,rd_I64,len_int,(by first | rfl | trivial),1,by kernel_rfl,rd_S,len_str,by first | kernel_rfl | trivial⟩
  ·
   rintro _ ⟨ps,hp0,rfl⟩;obtain ⟨_,_,rfl,⟨k,rfl,_⟩,hp1⟩:=qbc hp0;obtain ⟨_,_,rfl,⟨z,rfl,hz⟩,hp2⟩:=qbc hp1;obtain ⟨_,_,rfl,⟨s,rfl,hs⟩,hp3⟩:=qbc hp2;obtain rfl:=parts_nil hp3;exact ⟨⟨k,z,s⟩,rfl,i64_of hz,by show s.size≤_;unfold UB at hs;omega⟩
def gP (p:Pr):Prop:=p.key.size≤UB∧rngV p.v
theorem rd_Vs {n:Nat}:RD enc w n 26 (qOf V.c rngV):=rd_of Tryz.underlying26 (sz:=3) (by kernel_rfl) (by decide) (fun _=>rfl) rd_V
theorem rd_E:∀ (n:Nat),RD enc w n 59 (rOf Ex.c rngX)
 | 0=>Rd.zero
 | n+1=>by
  have hs:RD enc w n 57 (qOf Ex.c rngX):=rd_of Tryz.underlying57 (sz:=4) (by kernel_rfl) (by decide) (fun e=>by rw [Ex.c_eq];rfl) (rd_E n);refine (rd_struct (Qs:=[qInt .i64,qInt .i64,qStr UB,qOf Ex.c rngX]) bulkB Tryz.underlying59 ?_).mono ?_
  ·
   simp only [Flds];exact ⟨(by first | rfl | trivial),1,by kernel_rfl,rd_I,len_int,(by first | rfl | trivial),1,by kernel_rfl,rd_I64,len_int,(by first | rfl | trivial),1,by kernel_rfl,rd_S,len_str,(by first | rfl | trivial),1,by kernel_rfl,hs,len_of,by first | kernel_rfl | trivial⟩
  ·
   rintro _ ⟨ps,hp0,rfl⟩;obtain ⟨_,_,rfl,⟨k,rfl,_⟩,hp1⟩:=qbc hp0;obtain ⟨_,_,rfl,⟨z,rfl,hz⟩,hp2⟩:=qbc hp1;obtain ⟨_,_,rfl,⟨s,rfl,hs⟩,hp3⟩:=qbc hp2;obtain ⟨_,_,rfl,⟨l,rfl,hl⟩,hp4⟩:=qbc hp3;obtain rfl:=parts_nil hp4;refine ⟨.mk k z s l,by rw [Ex.c_eq];rfl,(rngX_iff _).2 ⟨⟨i64_of hz,by show s.size≤_;unfold UB at hs;omega⟩,hl.2⟩⟩
theorem rd_T:∀ (n:Nat),RD enc w n 64 (rOf St.c rngS)
 | 0=>Rd.zero
 | n+1=>by
  have hs:RD enc w n 23 (qOf St.c rngS):=rd_of Tryz.underlying23 (sz:=13) (by kernel_rfl) (by decide) (fun e=>by rw [St.c_eq];rfl) (rd_T n);refine (rd_struct (Qs:=[qInt .i64,qStr UB,qInt .i64,rOf Ex.c rngX,rOf Ex.c rngX,qOf St.c rngS,qOf St.c rngS]) bulkB Tryz.underlying64 ?_).mono ?_
  ·
   simp only [Flds];exact ⟨(by first | rfl | trivial),1,by kernel_rfl,rd_I,len_int,(by first | rfl | trivial),1,by kernel_rfl,rd_S,len_str,(by first | rfl | trivial),1,by kernel_rfl,rd_I,len_int,(by first | rfl | trivial),4,by kernel_rfl,rd_E n,by rintro _ ⟨e,rfl,_⟩;rw [Ex.c_eq];rfl,(by first | rfl | trivial),4,by kernel_rfl,rd_E n,by rintro _ ⟨e,rfl,_⟩;rw [Ex.c_eq];rfl,(by first | rfl | trivial),1,by kernel_rfl,hs,len_of,(by first | rfl | trivial),1,by kernel_rfl,hs,len_of,by first | kernel_rfl | trivial⟩
  ·
   rintro _ ⟨ps,hp0,rfl⟩;obtain ⟨_,_,rfl,⟨k,rfl,_⟩,hp1⟩:=qbc hp0;obtain ⟨_,_,rfl,⟨s,rfl,hs⟩,hp2⟩:=qbc hp1;obtain ⟨_,_,rfl,⟨m,rfl,_⟩,hp3⟩:=qbc hp2;obtain ⟨_,_,rfl,⟨a,rfl,ha⟩,hp4⟩:=qbc hp3;obtain ⟨_,_,rfl,⟨b,rfl,hb⟩,hp5⟩:=qbc hp4;obtain ⟨_,_,rfl,⟨l,rfl,hl⟩,hp6⟩:=qbc hp5;obtain ⟨_,_,rfl,⟨l',rfl,hl'⟩,hp7⟩:=qbc hp6;obtain rfl:=parts_nil hp7;refine ⟨.mk k s m a b l l',?_,(qd3 _).2 ⟨ha,hb,hl.2,hl'.2⟩⟩;simp [St.c,St.cl_map]
theorem rd_Ts {n:Nat}:RD enc w n 23 (qOf St.c rngS):=rd_of Tryz.underlying23 (sz:=13) (by kernel_rfl) (by decide) (fun e=>by rw [St.c_eq];rfl) (rd_T n)
theorem rd_M:∀ {n:Nat},RD enc w n 62 (rOf Param.c fun p=>gStr p.name)
 | 0=>Rd.zero
 | n+1=>by
  refine (rd_struct (Qs:=[qStr UB,qInt .i64]) bulkB Tryz.underlying62 ?_).mono ?_
  ·
   simp only [Flds];exact ⟨(by first | rfl | trivial),1,by kernel_rfl,rd_S,len_str,(by first | rfl | trivial),1,by kernel_rfl,rd_I,len_int,by first | kernel_rfl | trivial⟩
  ·
   rintro _ ⟨ps,hp0,rfl⟩;obtain ⟨_,_,rfl,⟨s,rfl,hs⟩,hp1⟩:=qbc hp0;obtain ⟨_,_,rfl,⟨k,rfl,_⟩,hp2⟩:=qbc hp1;obtain rfl:=parts_nil hp2;exact ⟨⟨s,k⟩,rfl,hs⟩
theorem rd_Ms {n:Nat}:RD enc w n 22 (qOf Param.c fun p=>gStr p.name):=rd_of Tryz.underlying22 (sz:=2) (by kernel_rfl) (by decide) (fun _=>rfl) rd_M
def gProc (p:Proc):Prop:=gStr p.name∧gSl (fun x:Param=>gStr x.name) p.params∧gSl rngS p.body
theorem rd_Proc:∀ {n:Nat},RD enc w n 25 (rOf Proc.c gProc)
 | 0=>Rd.zero
 | n+1=>by
  refine (rd_struct (Qs:=[qStr UB,qOf Param.c fun p=>gStr p.name,qOf St.c rngS]) bulkB Tryz.underlying25 ?_).mono ?_
  ·
   simp only [Flds];exact ⟨(by first | rfl | trivial),1,by kernel_rfl,rd_S,len_str,(by first | rfl | trivial),1,by kernel_rfl,rd_Ms,len_of,(by first | rfl | trivial),1,by kernel_rfl,rd_Ts,len_of,by first | kernel_rfl | trivial⟩
  ·
   rintro _ ⟨ps,hp0,rfl⟩;obtain ⟨_,_,rfl,⟨s,rfl,hs⟩,hp1⟩:=qbc hp0;obtain ⟨_,_,rfl,⟨l,rfl,hl⟩,hp2⟩:=qbc hp1;obtain ⟨_,_,rfl,⟨b,rfl,hb⟩,hp3⟩:=qbc hp2;obtain rfl:=parts_nil hp3;exact ⟨⟨s,l,b⟩,rfl,hs,hl,hb⟩
structure gEff (e:Eff):Prop where
 out:gSl rngV e.out
 reads:gSl gStr e.reads
 puts:gSl gStr e.puts
 writes:gSl gP e.writes
 miss:gStr e.miss
end
end Go.Proofs.YtilhejdbiionhaaGreatDoor

set_option maxRecDepth 8000
namespace Go.Proofs.YtilhejdbiionhaaGreatDoor
open Go Go.Abs Go.Cw Go.ChangeShapes Go.WideShapes Go.ChangeAt Go.RowKit
theorem laidOut:laidOutB Tryz.prog=true:=by kernel_rfl
theorem ownK:ownKnob Tryz.prog.godebug=none:=by kernel_rfl
abbrev laidL:List (String×DataW Unit):=[("math/bits.deBruijn32tab",Rows.laid_math_bits_deBruijn32tab),("math/bits.deBruijn64tab",Rows.laid_math_bits_deBruijn64tab),("internal/strconv.uint64pow10",Rows.laid_internal_strconv_uint64pow10)]
abbrev gTab:Nat:=0
theorem table {W:World} (h:laidMetH Tryz.prog laidL W):Lib.TabIs Tryz.prog W "internal/strconv.uint64pow10" .u64 Lib.pow10Tab :=
 Lib.tabIs_of_head (rest:=[]) (g:=gTab) (n:=20) (by kernel_rfl) (by kernel_rfl) Tryz.underlying300 Tryz.underlying202 (by kernel_rfl) (by kernel_rfl) (laidMet.tail (laidMet.tail (show laidMet Tryz.prog laidL W from h)))
theorem table_heap {W:World} (h:laidMetH Tryz.prog laidL W):∃ T x,W.heap[gTab]?=some (.cells tabV T x):=by
 have h1:=table h;unfold Lib.TabIs World.var? at h1
 rw [show Tryz.prog.globalNamed "internal/strconv.uint64pow10" = some gTab by kernel_rfl] at h1
 simp only [Option.bind_some] at h1;split at h1
 ·
  rename_i cs T x hx;cases h1;exact ⟨T,x,hx⟩
 · cases h1
theorem tab_u64:∀ (j:Nat) (v:Value),tabV[j]?=some v→∃ n,v=.int .u64 n:=by
 intro j v hv;unfold tabV at hv;have:(Lib.pow10Tab.map fun z=>Value.int .u64 z)[j]?=some v:=by simpa using hv
 rw [List.getElem?_map,Option.map_eq_some_iff] at this;obtain ⟨z,_,rfl⟩:=this;exact ⟨z,rfl⟩
def putTab (zs:List Value):Obj→Obj
 | .cells _ t fr=>.cells zs.toArray t fr
 | o=>o
def tabVals (d:DataW Unit):List Value:=match d with
 | .agg ps=>ps.map fun | .lit (.int k n)=>.int k n | _=>undef
 | _=>[]
noncomputable def laidWorld (os:Os):World :=
 { World.holding Tryz.prog os ⟨#[],#[],[]⟩ with heap:=(((World.holding Tryz.prog os ⟨#[],#[],[]⟩).heap.modify gTab (putTab (tabVals Rows.laid_internal_strconv_uint64pow10))).modify 2 (putTab (tabVals Rows.laid_math_bits_deBruijn32tab))).modify 3 (putTab (tabVals Rows.laid_math_bits_deBruijn64tab)) }
section
variable {H:Type} {enc:TypeId×Value→H} {W:World} {base:Nat}
theorem okWide_struct {t:TypeId} {fs:Array Field} (ht:Tryz.prog.underlying t=some (.struct fs)) {v:Value} (h:Value.okWide Tryz.prog W .any base t v):∃ cs,v=.agg cs:=by
 unfold Value.okWide at h;rw [ht] at h;obtain ⟨cs,rfl,_⟩:=h;exact ⟨cs,rfl⟩
theorem okWide_slice {t e:TypeId} (ht:Tryz.prog.underlying t=some (.slice e)) {v:Value} (h:Value.okWide Tryz.prog W .any base t v):v.cells = #[v]:=by
 unfold Value.okWide at h;rw [ht] at h;simp only at h;unfold Cell.okWide at h;rw [ht] at h;cases v<;>first | rfl | skip
 unfold Cell.ok at h;rw [ht] at h;exact h.elim
theorem arg_struct {t:TypeId} {fs:Array Field} (ht:Tryz.prog.underlying t=some (.struct fs)) {v:Value} {d:DataW H} {ps:List MemPlace} (hv:Value.okWide Tryz.prog W .any base t v) (h:DataW.Trod enc Tryz.prog W 0 (fun _=>true) true t v d ps)
  {α:Type} {c:α→List AV} {good:α→Prop} (hr:∀ n,RD enc W n t (rOf c good)) (hb:Rows.uptoBulk d≤UB):∃ a,Rel (ctxR W gTab) (.agg (c a)) v∧good a:=by
 obtain ⟨cs,rfl⟩:=okWide_struct ht hv;obtain ⟨fuel,hf⟩:=h;obtain ⟨_,hd,a,rfl,hg⟩:=hr fuel fuel _ _ _ (Nat.le_refl _) hf hb;exact ⟨a,rel_agg hd,hg⟩
theorem arg_slice {t e:TypeId} (ht:Tryz.prog.underlying t=some (.slice e)) {v:Value} {d:DataW H} {ps:List MemPlace} (hv:Value.okWide Tryz.prog W .any base t v) (h:DataW.Trod enc Tryz.prog W 0 (fun _=>true) true t v d ps)
  {α:Type} {c:α→List AV} {good:α→Prop} (hr:∀ n,RD enc W n t (qOf c good)) (hb:Rows.uptoBulk d≤UB):∃ l:List α,Rel (ctxR W gTab) (.slice (l.map c)) v∧gSl good l:=by
 obtain ⟨fuel,hf⟩:=h;rw [okWide_slice ht hv] at hf;obtain ⟨_,hd,l,rfl,hg⟩:=hr fuel fuel _ _ _ (Nat.le_refl _) hf hb;exact ⟨l,rel_one hd,hg⟩
end
theorem pLaid:laidOutB Tryz.pinned.checked.prog=true:=by kernel_rfl
theorem pMaps:mapsRowed Tryz.pinned.checked.prog=true:=by kernel_rfl
theorem pHeard:Tryz.pinned.checked.prog.stopsHeard=true:=by kernel_rfl
theorem pEnter:Tryz.pinned.checked.prog.mayEnter=true:=by kernel_rfl
end Go.Proofs.YtilhejdbiionhaaGreatDoor

set_option maxRecDepth 8000
namespace Go.Proofs.YtilhejdbiionhaaGreatDoor
open Go Go.Abs Go.Cw
section
variable {H:Type} {enc:TypeId×Value→H} {w:World}
theorem runIn_of {p:Proc} {args:List V} {st:List Pr} (hp:gProc p) (ha:gSl rngV args) (hs:gSl gP st):RunIn qbo p args st:=⟨qch,hp.2.2.2,ha.2,fun q hq=>(hs.2 q hq).2⟩
end
end Go.Proofs.YtilhejdbiionhaaGreatDoor
