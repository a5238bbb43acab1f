/- Part 34 of a proof: W49, R1, W3 -/
import Derived.Test.YtcjolkgjhcdhcaaGreatDoorR13
import Derived.Test.YtcjolkgjhcdhcaaGreatDoorR14
import Derived.Test.YtcjolkgjhcdhcaaGreatDoorR20
import Derived.Test.YtcjolkgjhcdhcaaGreatDoorR21
import Derived.Test.YtcjolkgjhcdhcaaGreatDoorR25
import Derived.Test.YtcjolkgjhcdhcaaGreatDoorR31
import Derived.Test.YtcjolkgjhcdhcaaGreatDoorR32
import Derived.Test.YtcjolkgjhcdhcaaGreatDoorR33
set_option linter.all false

set_option maxRecDepth 4000
set_option maxHeartbeats 2000000
namespace Go.Proofs.YtcjolkgjhcdhcaaGreatDoor
open Go Go.Abs Go.Cw
theorem c_Clone_P (l:List Pr):APure Tryz.prog 34 [.slice (l.map Pr.c)] (.slice (l.map Pr.c)):=by
 refine qcz Tryz.func34 rfl (by kernel_rfl) (by simp [Tryz.ntmps34]) rfl ?_;intro E h hN hh hu hb;rw [Tryz.ntmps34] at hN;simp [go_sem] at hb;refine qcx (awp_ops ?_);simp [go_sem,hN];refine qcx (qcx (awp_opsT [_] _ ?_));simp [go_sem,hN];intro c a w s k;refine wp_eqnil s (el:=73) (sz:=4) (x:=.tmp 3) (rows:=l.map Pr.c) (d1:=4) rfl rfl (by omega) rfl (by simp [go_sem]) (by simp [go_sem]) (by simp [go_sem]) fun b a' hbn s'=>?_;refine qdb _ [_,_] _ rfl ?_ c a' w s' k;simp [go_sem,hN];cases b with
 | true =>
  have hl:l=[]:=by simpa using hbn rfl
  subst hl;apply qa2;simp -dsimp [go_sem,hN]
 | false =>
  refine awp_cond (x:=.tmp 4) (b:=false) (by simp [go_sem]) (fun h=>by cases h) (fun _=>awp_skip ?_);simp only [then_normal];refine qcx (awp_opsT [] _ ?_);simp [go_sem,hN];intro c a w s k;refine wp_lit0 s k (el:=73) (sz:=4) (d1:=5) rfl rfl (by omega) rfl (by simp [go_sem]) (by simp [go_sem]) (by simp [go_sem]) (by omega) fun c' a' w' s' k'=>?_;refine qdb _ [_] _ rfl ?_ c' a' w' s' k';simp [go_sem,hN];refine ⟨hb.1,?_⟩;apply qa2;simp -dsimp [go_sem,hN]
theorem c_state_order (p q:Pr):APure Tryz.prog 63 [.agg p.c,.agg q.c] (I (cmpS p.key q.key)):=by
 refine qaj Tryz.func63 Tryz.ntmps63 rfl (by kernel_rfl) rfl rfl fun E h hN hh hu hb=>?_;simp -dsimp [go_sem,hN];refine qaa (c_strings_Compare p.key q.key) ?_;simp -dsimp [go_sem,hN]
theorem c_state_Apply1 (p:Pr) (h:qab) (o i:Nat) (l:List Pr) (hp:h[o]?=some (.cells [.own i l.length])) (hi:h[i]?=some (.arr 73 4 (l.map Pr.c))) (hl:l.length+1≤68719476736) :
  ACalls Tryz.prog 59 [.agg p.c,.ptr o 0] h fun r h'=>r=.ret (.tuple [])∧h'=(h.set i (.arr 73 4 ((l++[p]).map Pr.c))).set o (.cells [.own i (l++[p]).length]):=by
 refine qav Tryz.func59 Tryz.ntmps59 rfl (by kernel_rfl) rfl fun E hN hh hu hb hb' hua=>?_;simp [go_sem] at hb;have hp':o<h.length:=(List.getElem?_eq_some_iff.1 hp).1;have hi':i<h.length:=(List.getElem?_eq_some_iff.1 hi).1;have hpi:o≠i:=by rintro rfl;rw [hp] at hi;cases hi
 have a1:∀ l:qab,(h++l)[o]?=h[o]?:=fun l=>List.getElem?_append_left hp';have a2:∀ l:qab,(h++l)[i]?=h[i]?:=fun l=>List.getElem?_append_left hi';have a3:∀ (l:qab) (y:AObj),(h++l).set o y=h.set o y++l:=fun l y=>List.set_append_left _ _ hp';have a4:∀ (l:qab) (y:AObj),(h++l).set i y=h.set i y++l:=fun l y=>List.set_append_left _ _ hi';have a5:∀ (l:qab) (q y:AObj),(h.set i q++l).set o y=(h.set i q).set o y++l:=fun l q y=>List.set_append_left _ _ (by simpa using hp');have a6:∀ (l:qab) (q:AObj),(h.set i q++l)[o]?=h[o]?:=fun l q=>by rw [List.getElem?_append_left (by simpa using hp'),List.getElem?_set_ne (Ne.symm hpi)]
 have hus:∀ (r:List (List AV)) (n:Nat),hUnder h.length ((h.set i (.arr 73 4 r)).set o (.cells [.own i n]))=true:=fun r n=>qcw (qcw hu (by simp [AObj.under])) (by simp [AObj.under,qaw,AV.under,hi']);simp -dsimp [go_sem,hN,a1,a2,a3,a4,a5,a6,hp,hi];refine ⟨by omega,?_⟩;exact ⟨_,.refl _,_,rfl,hwk.app0 _,by simp,by simpa using hus _ _,rfl,by simp⟩
def mgH (h:qab) (l:List Pr):qab:=h++[.cells [.own (h.length+3) l.length],.cells [.fn (.func 59) [] [.ptr h.length 0]],.cells [.fn (.func 60) [] [.ptr (h.length+1) 0]],.arr 73 4 (l.map Pr.c)]
theorem mgH_under {h:qab} (hu:hUnder h.length h=true) (l:List Pr):hUnder (mgH h l).length (mgH h l)=true:=by
 unfold mgH;rw [qaz,qa4 (by simp) hu];simp [go_sem]
theorem mgH_underL {h:qab} (hu:hUnder h.length h=true) {l:List Pr} (l':List Pr) {L:qab} (hL:hUnder (mgH h l++L).length (mgH h l++L)=true):hUnder (mgH h l'++L).length (mgH h l'++L)=true:=by
 rw [qaz,Bool.and_eq_true] at hL ⊢;refine ⟨?_,?_⟩
 · exact qa4 (by simp) (mgH_under hu l')
 ·
  have e:(mgH h l'++L).length=(mgH h l++L).length:=by simp [mgH]
  rw [e];exact hL.2
theorem mgH_len (h:qab) (l:List Pr):(mgH h l).length=h.length+4:=by simp [mgH]
theorem mg_keep (h:qab) (l:List Pr) (p:Pr) (L:qab) (hl:l.length+1≤68719476736):ACalls Tryz.prog 59 [.agg p.c,.ptr h.length 0] (mgH h l++L) fun r h'=>r=.ret (.tuple [])∧h'=mgH h (l++[p])++L:=by
 have:=c_state_Apply1 p (mgH h l++L) h.length (h.length+3) l (by simp [mgH]) (by simp [mgH]) hl;simpa [mgH] using this
def putA (l:List Pr) (p:Pr):List Pr:=if p.v.k=0 then l else l++[p]
theorem mg_write (h:qab) (hu0:hUnder h.length h=true) (l:List Pr) (p:Pr) (L:qab) (hl:l.length+1≤68719476736):ACalls Tryz.prog 60 [.agg p.c,.ptr (h.length+1) 0] (mgH h l++L) fun r h'=>r=.ret (.tuple [])∧h'=mgH h (putA l p)++L:=by
 refine qav Tryz.func60 Tryz.ntmps60 rfl (by kernel_rfl) rfl fun E hN hh hu hb hb' hua=>?_;have e1:∀ X:qab,(mgH h l++X)[h.length+1]?=some (.cells [.fn (.func 59) [] [.ptr h.length 0]]):=fun X=>by simp [mgH]
 have e2:∀ (l:List Pr),(mgH h l).length=h.length+4:=fun l=>mgH_len h l;simp -dsimp [go_sem,hN,e1,e2,List.append_assoc];refine qaa (c_state_absent p) ?_;simp -dsimp [go_sem,hN];refine cnd ?_ ?_<;>intro h0<;>simp at h0
 ·
  simp -dsimp [go_sem,hN,e1,e2,List.append_assoc];have hk:=mg_keep h l p (L++[.cells p.c]) hl;refine qan (by simpa [go_sem] using hk) ?_;rintro r h' ⟨rfl,rfl⟩;simp -dsimp [go_sem,hN];rw [putA,if_neg h0];exact ⟨_,.refl _,mgH h (l++[p])++L,rfl,by rw [← List.append_assoc];exact hwk.app0 _,by simp [mgH];omega,mgH_underL hu0 _ hu,rfl,rfl⟩
 ·
  simp -dsimp [go_sem,hN];rw [putA,if_pos h0];exact ⟨_,.refl _,mgH h l++L,rfl,by rw [← List.append_assoc];exact hwk.app0 _,by simp,hu,rfl,rfl⟩
theorem mg_both (h:qab) (hu0:hUnder h.length h=true) (l:List Pr) (q p:Pr) (L:qab) (hl:l.length+1≤68719476736):ACalls Tryz.prog 64 [.agg q.c,.agg p.c,.ptr (h.length+2) 0] (mgH h l++L) fun r h'=>r=.ret (.tuple [])∧h'=mgH h (putA l p)++L:=by
 refine qav Tryz.func64 Tryz.ntmps64 rfl (by kernel_rfl) rfl fun E hN hh hu hb hb' hua=>?_;have e1:∀ X:qab,(mgH h l++X)[h.length+2]?=some (.cells [.fn (.func 60) [] [.ptr (h.length+1) 0]]):=fun X=>by simp [mgH]
 have e2:∀ (l:List Pr),(mgH h l).length=h.length+4:=fun l=>mgH_len h l;simp -dsimp [go_sem,hN,e1,e2,List.append_assoc];have hk:=mg_write h hu0 l p (L++[.cells q.c,.cells p.c]) hl;refine qan (by simpa [go_sem] using hk) ?_;rintro r h' ⟨rfl,rfl⟩;simp -dsimp [go_sem,hN];exact ⟨_,.refl _,mgH h (putA l p)++L,rfl,by rw [← List.append_assoc];exact hwk.app0 _,by simp [mgH];omega,mgH_underL hu0 _ hu,rfl,rfl⟩
theorem mergeP_put (acc:List Pr) (q:Pr) (l:List Pr):acc++putW q l=putA acc q++l:=by
 unfold putW putA;split<;>simp
theorem putA_len (l:List Pr) (p:Pr):(putA l p).length≤l.length+1:=by
 unfold putA;split<;>simp
theorem c_state_merge (h:qab) (hu0:hUnder h.length h=true) (a b:List Pr) (hB:a.length+b.length≤68719476735) :
  ACalls Tryz.prog 62 [.slice (a.map Pr.c),.slice (b.map Pr.c),.fn (.func 63) [] [],.fn (.func 59) [] [.ptr h.length 0],.fn (.func 60) [] [.ptr (h.length+1) 0],.fn (.func 64) [] [.ptr (h.length+2) 0]] (mgH h []) fun r h'=>r=.ret (.tuple [])∧h'=mgH h (mergeP a b):=by
 refine qav Tryz.func62 Tryz.ntmps62 rfl (by kernel_rfl) rfl fun E hN hh hu hb hb' hua=>?_;simp [go_sem] at hb;have e2:∀ (l:List Pr),(mgH h l).length=h.length+4:=fun l=>mgH_len h l;simp -dsimp [go_sem,hN];refine awp_loopM (α:=Nat×Nat×List Pr) (fun x=>x.1≤a.length∧x.2.1≤b.length∧x.2.2.length≤x.1+x.2.1∧x.2.2++mergeP (a.drop x.1) (b.drop x.2.1)=mergeP a b)
  (fun x=>⟨[(0,.slice (a.map Pr.c)),(1,.slice (b.map Pr.c)),(2,.fn (.func 63) [] []),(3,.fn (.func 59) [] [.ptr h.length 0]),(4,.fn (.func 60) [] [.ptr (h.length+1) 0]),(5,.fn (.func 64) [] [.ptr (h.length+2) 0]),(12,I x.1),(13,I x.2.1)],mgH h x.2.2⟩) (fun x=>a.length+b.length - x.1 - x.2.1) (0,0,[]) (by simp) ?_ ?_
 · exact Wk.mk (by simp [hh,mgH]) (by simp [go_sem]) (mgH_under hu0 []) (by simp [go_sem,e2])
 rintro ⟨i,k,acc⟩ ⟨hi,hk,hal,hI⟩;dsimp only at hi hk hal hI ⊢;simp -dsimp [go_sem,hN];refine cnd ?_ ?_<;>intro hc<;>simp at hc
 ·
  simp -dsimp [go_sem,hN];refine cnd ?_ ?_<;>intro h1<;>simp at h1
  ·
   have hk2:k<b.length:=by omega
   have hw:IntKind.i64.wrap ((k:Int)+1)=((k+1:Nat):Int):=by rw [wrapI (by omega) (by omega)];omega
   rw [List.drop_eq_nil_of_le (show a.length≤i by omega),qad hk2,mergeP,mergeP_put] at hI;simp -dsimp [go_sem,hN,hk2];refine qan (by simpa [go_sem] using mg_write h hu0 acc b[k] [] (by omega)) ?_;rintro r h' ⟨rfl,rfl⟩;simp -dsimp [go_sem,hN,hw];have hpl:=putA_len acc b[k];exact ⟨i,k+1,putA acc b[k],⟨hi,by omega,by omega,by rw [List.drop_eq_nil_of_le (show a.length≤i by omega)];exact hI⟩,by omega,Wk.mk (by simp [hh,mgH]) (by simp [go_sem]) (mgH_under hu0 _) (by simp [go_sem,e2])⟩
  ·
   have hi2:i<a.length:=by omega
   have hw:IntKind.i64.wrap ((i:Int)+1)=((i+1:Nat):Int):=by rw [wrapI (by omega) (by omega)];omega
   simp -dsimp [go_sem,hN];refine cnd ?_ ?_<;>intro h2<;>simp at h2
   ·
    rw [List.drop_eq_nil_of_le (show b.length≤k by omega),qad hi2,mergeP] at hI;simp -dsimp [go_sem,hN,hi2];refine qan (by simpa [go_sem] using mg_keep h acc a[i] [] (by omega)) ?_;rintro r h' ⟨rfl,rfl⟩;simp -dsimp [go_sem,hN,hw];exact ⟨i+1,k,acc++[a[i]],⟨by omega,hk,by simp;omega,by rw [List.drop_eq_nil_of_le (show b.length≤k by omega)];simpa using hI⟩,by omega,Wk.mk (by simp [hh,mgH]) (by simp [go_sem]) (mgH_under hu0 _) (by simp [go_sem,e2])⟩
   ·
    have hk2:k<b.length:=by omega
    have hw2:IntKind.i64.wrap ((k:Int)+1)=((k+1:Nat):Int):=by rw [wrapI (by omega) (by omega)];omega
    have hcm:=cmpS_lt a[i].key b[k].key;have hcm2:=cmpS_lt b[k].key a[i].key;rw [qad hi2,qad hk2,mergeP] at hI;simp -dsimp [go_sem,hN,hi2,hk2];refine qah 9 mixed (by kernel_rfl) (by kernel_rfl) ?_;simp -dsimp [go_sem,hN,hi2,hk2];refine qaa (c_state_order a[i] b[k]) ?_;simp -dsimp [go_sem,hN];refine cnd ?_ ?_<;>intro h3<;>simp at h3
    ·
     rw [if_pos (hcm.1.1 h3)] at hI;simp -dsimp [go_sem,hN,hi2,hk2];refine qan (by simpa [go_sem] using mg_keep h acc a[i] [] (by omega)) ?_;rintro r h' ⟨rfl,rfl⟩;simp -dsimp [go_sem,hN,hw];exact ⟨i+1,k,acc++[a[i]],⟨by omega,hk,by simp;omega,by rw [qad hk2];simpa using hI⟩,by omega,Wk.mk (by simp [hh,mgH]) (by simp [go_sem]) (mgH_under hu0 _) (by simp [go_sem,e2])⟩
    rw [if_neg (fun g=>absurd (hcm.1.2 g) (by omega))] at hI;simp -dsimp [go_sem,hN];refine cnd ?_ ?_<;>intro h4<;>simp at h4
    ·
     have h5:sLt b[k].key a[i].key=true:=by
      rcases Bool.eq_false_or_eq_true (sLt b[k].key a[i].key) with g | g
      · exact g
      ·
       have:=sLt_eq (a:=a[i].key) (b:=b[k].key) (fun x=>absurd (hcm.1.2 x) (by omega)) (by rw [g];simp);have:=hcm.2.2 this;omega
     rw [if_pos h5,mergeP_put] at hI;simp -dsimp [go_sem,hN,hi2,hk2];refine qan (by simpa [go_sem] using mg_write h hu0 acc b[k] [] (by omega)) ?_;rintro r h' ⟨rfl,rfl⟩;simp -dsimp [go_sem,hN,hw2];have hpl:=putA_len acc b[k];exact ⟨i,k+1,putA acc b[k],⟨hi,by omega,by omega,by rw [qad hi2];exact hI⟩,by omega,Wk.mk (by simp [hh,mgH]) (by simp [go_sem]) (mgH_under hu0 _) (by simp [go_sem,e2])⟩
    ·
     have he:a[i].key=b[k].key:=hcm.2.1 (by omega);rw [if_neg (by rw [he,qcu];simp),mergeP_put] at hI;simp -dsimp [go_sem,hN,hi2,hk2];refine qah 9 mixed (by kernel_rfl) (by kernel_rfl) ?_;simp -dsimp [go_sem,hN,hi2,hk2];refine qan (by simpa [go_sem] using mg_both h hu0 acc a[i] b[k] [] (by omega)) ?_;rintro r h' ⟨rfl,rfl⟩;simp -dsimp [go_sem,hN,hw,hw2];have hpl:=putA_len acc b[k];exact ⟨i+1,k+1,putA acc b[k],⟨by omega,by omega,by omega,hI⟩,by omega,Wk.mk (by simp [hh,mgH]) (by simp [go_sem]) (mgH_under hu0 _) (by simp [go_sem,e2])⟩
 ·
  rw [List.drop_eq_nil_of_le (show a.length≤i by omega),List.drop_eq_nil_of_le (show b.length≤k by omega),mergeP,List.append_nil] at hI;subst hI;simp -dsimp [go_sem,hN];exact ⟨_,.refl _,mgH h (mergeP a b),rfl,hwk.refl _,by simp [e2],mgH_under hu0 _,rfl,rfl⟩
theorem writesOk_sorted (w:List Pr):sortedP none w=qcm w:=by rw [sortedP_eq];rfl
theorem c_state_Apply (l w:List Pr) (hB:l.length+w.length<68719476736):APure Tryz.prog 35 [.slice (l.map Pr.c),.slice (w.map Pr.c)]
  (if qa0 l&&qcm w then .tuple [.slice ((applyP l w).map Pr.c),I 0] else .tuple [.slice [],I 1]):=by
 refine qcz Tryz.func35 rfl (by kernel_rfl) (by simp [Tryz.ntmps35]) (by split<;>rfl) ?_;intro E h hN hh hu hb;rw [Tryz.ntmps35] at hN;refine qa2 _ _ _ ?_;simp [go_sem] at hb;have hs:=c_state_sorted w;rw [writesOk_sorted] at hs;simp -dsimp [go_sem,hN];refine qaa (c_state_Valid l) ?_;simp -dsimp [go_sem,hN];refine qae hs (by simp) ?_;simp -dsimp [go_sem,hN];refine cnd ?_ ?_<;>intro h0<;>simp at h0
 ·
  simp -dsimp [go_sem,hN];grind
 rw [h0.1,h0.2];have hm:mergeP l w=applyP l w:=mergeP_eq ((qd2 l).1 h0.1).2.2 ((qdg w).1 h0.2).2.2;simp -dsimp [go_sem,hN];have hk:=c_state_merge h hu l w (by omega);rw [hm] at hk;have hw2:∀ E:Ent,Wk E ⟨[],h++[.cells [.nils],.cells [.fn (.func 59) [] [.ptr h.length 0]],.cells [.fn (.func 60) [] [.ptr (h.length+1) 0]]]⟩ ⟨[],mgH h []⟩:=fun E=>by
  have:=nilc_wk E ⟨[],h++[.cells [.nils],.cells [.fn (.func 59) [] [.ptr h.length 0]],.cells [.fn (.func 60) [] [.ptr (h.length+1) 0]]]⟩ (p:=h.length) (j:=0) (t:=73) (sz:=4) (xs:=[.nils]) (by simp) rfl;simpa [mgH] using this
 refine qan (acalls_wk hw2 hk) ?_;rintro r h' ⟨rfl,rfl⟩;simp -dsimp [go_sem,hN,mgH]
end Go.Proofs.YtcjolkgjhcdhcaaGreatDoor

namespace Go.Proofs.YtcjolkgjhcdhcaaGreatDoor
open Go Go.Abs Go.Cw
@[simp] theorem any20:anyT Tryz.prog 20=true:=by kernel_rfl
theorem c_run1_ret {c:Ctx} {h:qab} {w:World} (hs:HSim c h w) {i4 i5:Nat} {vs:Array Value} (ha:RelL c [.ptr i4 0,.ptr i5 0] vs) :
  CallsD Tryz.prog 116 vs .returning w fun e u' w'=>(∃ v,e=.returned v)∧u'=.returning∧∃ c',HSim c' h w'∧(⟨12,c,h,w⟩:Ent).ok c' h w':=by
 refine callsD_of_wpS Tryz.func116 rfl fun c₀ cs hu=>?_;have s0:=sim_enter (N:=12) hs ha (by simp);refine wpS_seq (wpS_region ?_);simp [wpOpsS,go_sem,recoverD,hu,Exit.thenS,Tryz.ntmps116];obtain ⟨q1,q2,q3,q4,q5,q6,q7⟩:=c₀;simp only at hu;subst hu;have s1:=s0.put (.refl c) hs (d:=some 5) (by simp) (Rel.val Value.nilIface);refine wpS_fn (E:=⟨12,c,h,w⟩) (c₀:=⟨q1,q2,q3,q4,.returning,q6,q7⟩) (U:=.returning) (cs:=cs) (fn:=Tryz.f116) s1 (Ent.ok.refl 12 hs) (H:=h) (n0:=h.length) (Nat.le_refl _) ?_;refine qa2 _ _ _ ?_;have hN:(⟨12,c,h,w⟩:Ent).N=12:=rfl;have hu':=hs.hUnder;simp -dsimp [go_sem,hN,Tryz.f116,hu'];exact ⟨.tuple [],.refl _,h,rfl,hwk.refl _,Nat.le_refl _,hu',rfl,rfl⟩
@[simp] theorem za74:zeroAV Tryz.prog 137=some (.agg [I 0,I 0,.nils,S em]):=by kernel_rfl
theorem c_run1_pan {c:Ctx} {h:qab} {w:World} (hs:HSim c h w) {i4 i5:Nat} {vs:Array Value} (ha:RelL c [.ptr i4 0,.ptr i5 0] vs) {st:List AV} (hst:st.length=4) (x4:List AV) (h4:h[i4]?=some (.cells x4)) (hx4:x4.length=4) (x5:AV) (h5:h[i5]?=some (.cells [x5])) (h45:i4≠i5) (hds:st.all AV.one=true)
  {v:Value} (hv:Rel c (.iface 137 (.agg st)) v) :
  CallsD Tryz.prog 116 vs (.panicking [⟨v,false,false⟩]) w fun e u' w'=>(∃ v,e=.returned v)∧u'=.panicking [⟨v,true,false⟩]∧∃ c',HSim c' ((h.set i4 (.cells st)).set i5 (.cells [Bo true])) w'∧(⟨12,c,h,w⟩:Ent).ok c' ((h.set i4 (.cells st)).set i5 (.cells [Bo true])) w':=by
 refine callsD_of_wpS Tryz.func116 rfl fun c₀ cs hu=>?_;have s0:=sim_enter (N:=12) hs ha (by simp);refine wpS_seq (wpS_region ?_);simp [wpOpsS,go_sem,recoverD,hu,Exit.thenS,Tryz.ntmps116];have s1:=s0.put (.refl c) hs (d:=some 5) (by simp) hv;refine wpS_fn (E:=⟨12,c,h,w⟩) (c₀:=c₀) (U:=.panicking [⟨v,true,false⟩]) (cs:=cs) (fn:=Tryz.f116) s1 (Ent.ok.refl 12 hs) (H:=(h.set i4 (.cells st)).set i5 (.cells [Bo true])) (n0:=h.length) (Nat.le_refl _) ?_;refine qa2 _ _ _ ?_;have hN:(⟨12,c,h,w⟩:Ent).N=12:=rfl;have hu':=hs.hUnder;have l4:i4<h.length:=(List.getElem?_eq_some_iff.1 h4).1;have l5:i5<h.length:=(List.getElem?_eq_some_iff.1 h5).1;obtain ⟨a,b,d,e,rfl⟩:∃ a b d e,st=[a,b,d,e]:=by
  match st,hst with
  | [a,b,d,e],_=>exact ⟨a,b,d,e,rfl⟩
 have hun:qaw h.length [a,b,d,e]=true:=by
  have:=hv.under hs.dom;simpa [AV.under] using this
 have a4:(h++[AObj.cells [a,b,d,e]])[i4]?=some (.cells x4):=by rw [List.getElem?_append_left l4];exact h4
 have a5:((h++[AObj.cells [a,b,d,e]]).set i4 (AObj.cells [a,b,d,e]))[i5]?=some (.cells [x5]):=by rw [List.getElem?_set_ne h45,List.getElem?_append_left l5];exact h5
 simp -dsimp [go_sem,hN,Tryz.f116,hu',a4,a5,hx4];rw [show x4.drop 4=[] from List.drop_eq_nil_of_le (by omega),a5];refine ⟨by simp,.tuple [],.refl _,_,rfl,?_,?_,?_,rfl,rfl⟩
 ·
  rw [List.set_append_left _ _ l4,List.set_append_left _ _ (by simpa using l5)];exact hwk.app0 _
 · simp
 ·
  simp only [List.length_set];exact qcw (qcw hu' hun) (by simp [AObj.under,qaw,AV.under])
def zs:List AV:=[I 0,I 0,.slice [],S em]
theorem c_interp_run (m:AV) {g:FuncId} {first caps:List AV} {h:qab} {Rg R:AEnd→qab→Prop} (hg:ACalls Tryz.prog g (qbc (h++[.cells [I 0,I 0,.nils,S em],.cells [Bo false]]) (first++caps)) (h++[.cells [I 0,I 0,.nils,S em],.cells [Bo false]]) Rg)
  (hR:∀ r h',Rg r h'→h.length+2≤h'.length→(∃ x4,h'[h.length]?=some (.cells x4)∧x4.length=4)∧(∃ x5,h'[h.length+1]?=some (.cells [x5]))∧hUnder h.length (h'.take h.length)=true∧match r with
   | .ret _=>R (.ret (.tuple [.agg zs,Bo false])) (h'.take h.length)
   | .panic (.iface 137 (.agg st))=>st.length=4∧st.all AV.one=true∧qaw h.length st=true∧R (.ret (.tuple [.agg st,Bo true])) (h'.take h.length)
   | _=>False) (hst':∀ h' st,Rg (.panic (.iface 137 (.agg st))) h'→∀ H,qbc H st=st):ACalls Tryz.prog 97 [m,.fn (.func g) first caps] h R:=by
 refine ⟨⟨_,Tryz.func97,by kernel_rfl,by kernel_rfl⟩,fun c w vs hs ha=>?_⟩;refine calls_of_wp_defers Tryz.func97 rfl ?_;have s0:=sim_enter (N:=10) hs ha (by simp);have k0:=Ent.ok.refl 10 hs;rw [Tryz.ntmps97];refine wp_seq (wp_mono ((awp_opsG (E:=⟨10,c,h,w⟩) (Q:=fun x e=>x=.normal∧e=⟨[(5,.ptr (h.length+1) 0),(4,.ptr h.length 0),(0,m),(1,.fn (.func g) first caps)],h++[.cells [I 0,I 0,.nils,S em],.cells [Bo false]]⟩) ?_) c _ w s0 k0) ?_)
 ·
  have hN:(⟨10,c,h,w⟩:Ent).N=10:=rfl;simp -dsimp [go_sem,hN]
 rintro ex a1 w1 ⟨x',e1,c1,⟨rfl,rfl⟩,hx,s1,k1⟩;cases ex<;>simp only [XR] at hx;show Code.wp _ _ _ a1 w1;have t4:=s1.tmps 4;have t5:=s1.tmps 5;have t1:=s1.tmps 1;simp [qa8] at t4 t5 t1;refine wp_seq (wp_region_list ?_);have sz:a1.tmps.size=10:=s1.size;have df:a1.defers=[]:=s1.defers;obtain ⟨tm,dfs⟩:=a1;simp only at sz df;subst df;simp [wpList,go_sem,Oper.wp,Oper.upon,Instr.makeFunc,sz];refine .inl (.inl ?_);have s3:=s1.put (.refl c1) s1.hs (d:=some 6) (by simp) (Rel.top (Value.func (Fn.func 116) #[] #[tm[4],tm[5]]));have E3:({ tmps:=tm.setIfInBounds 6 (Value.func (Fn.func 116) #[] #[tm[4],tm[5]]),defers:=[{ target:=Target.fn (Fn.func 116) #[tm[4],tm[5]],args:=#[] }] }:Act)=ddf [{ target:=Target.fn (Fn.func 116) #[tm[4],tm[5]],args:=#[] }] (({ tmps:=tm,defers:=[] }:Act).put (some 6) (Value.func (Fn.func 116) #[] #[tm[4],tm[5]])):=rfl;rw [E3];have hd4:∀ c',c1.le c'→RelL c' [.ptr h.length 0,.ptr (h.length+1) 0] #[tm[4],tm[5]]:=fun c' hle=>⟨rfl,fun j x v hx hv=>by
  match j with
  | 0=>simp at hx hv;subst hx;subst hv;simpa [sz] using t4.mono hle
  | 1=>simp at hx hv;subst hx;subst hv;simpa [sz] using t5.mono hle
  | j+2=>simp at hx⟩
 -- what stands behind the deferred call
 have fin:∀ (c5:Ctx) (e5:Env) (a5:Act) (w5:World) (hf:qab) (st:List AV) (b:Bool),Sim 10 c5 e5 a5 w5→(⟨10,c,h,w⟩:Ent).ok c5 e5.h w5→qa8 e5.t 4=.ptr h.length 0→qa8 e5.t 5=.ptr (h.length+1) 0 →
   e5.h[h.length]?=some (.cells st)→st.length=4→qaw h.length (qbc e5.h st)=true→e5.h[h.length+1]?=some (.cells [Bo b])→hwk e5.h hf→hf.length=h.length→hUnder h.length hf=true→R (.ret (.tuple [.agg (qbc e5.h st),Bo b])) hf →
   ∃ v,(results Tryz.f97 a5.tmps).run Tryz.prog w5=.ok v w5∧∃ r h',R r h'∧∃ x,EndR x r (.returned v)∧HSim x h' w5∧(⟨0,c,h,w⟩:Ent).ok x h' w5:=by
  intro c5 e5 a5 w5 hf st b s5 k5 l4 l5 g4 hst hun g5 hw hl hu hRR;obtain ⟨v,hv,hr⟩:=results_ok (E:=⟨10,c,h,w⟩) (P:=Tryz.prog) s5 Tryz.f97 (by
   simp [Tryz.f97,go_sem,l4,l5,g4,g5,hst])
  have hval:(mkRes ((Tryz.f97).results.toList.map fun r=>(resSV Tryz.prog e5 r).val))=.tuple [.agg st,Bo b]:=by
   have ht:st.take 4=st:=List.take_of_length_le (by omega);simp [Tryz.f97,go_sem,l4,l5,g4,g5,ht]
  rw [hval] at hr;obtain ⟨c6,q1,q2,q3⟩:=finish (E:=⟨10,c,h,w⟩) s5 k5 hr (r':=.tuple [.agg (qbc e5.h st),Bo b]) (h':=hf) (by simp [AV.norm,qbc]) (by simp [AV.under,qaw,hl];exact hun) hw (by simp [hl]) (by rw [hl];exact hu);exact ⟨v,hv,_,hf,hRR,c6,q3,q1,q2.withN 0⟩
 have k3:(⟨10,c1,h++[.cells [I 0,I 0,.nils,S em],.cells [Bo false]],w1⟩:Ent).ok c1 (h++[.cells [I 0,I 0,.nils,S em],.cells [Bo false]]) w1:=Ent.ok.refl 10 s1.hs;refine wp_seq (wp_region_list (wpList_ddf (Q:=conc ⟨10,c1,h++[.cells [I 0,I 0,.nils,S em],.cells [Bo false]],w1⟩ fun x e=>match x with
  | .normal=>(∃ v,Rg (.ret v) e.h)∧qa8 e.t 4=.ptr h.length 0∧qa8 e.t 5=.ptr (h.length+1) 0
  | .panic v=>Rg (.panic v) e.h∧qa8 e.t 4=.ptr h.length 0∧qa8 e.t 5=.ptr (h.length+1) 0
  | _=>False) ?_ ((qda (E:=⟨10,c1,h++[.cells [I 0,I 0,.nils,S em],.cells [Bo false]],w1⟩) _ [] _ rfl ?_) c1 _ w1 s3 k3)))
 ·
  rintro x a w2 ⟨x',e2,c2,hq,hx,s2,k2⟩;have hle:c1.le c2:=k2.ext;have hlen:h.length+2≤e2.h.length:=by simpa using k2.len
  cases x' with
  | normal =>
   cases x<;>simp only [XR] at hx;obtain ⟨⟨v,hv⟩,l4,l5⟩:=hq;obtain ⟨⟨x4,g4,lx4⟩,⟨x5,g5⟩,hu2,hRR⟩:=hR _ _ hv hlen;show Code.wp _ _ _ _ _;have n4:h.length<e2.h.length:=by omega
   have n5:h.length+1<e2.h.length:=by omega
   refine wp_seq (wp_region_list (wpList_ddf (Q:=conc ⟨10,c2,e2.h,w2⟩ fun x e=>x=.normal∧e.h=(e2.h.set h.length (.cells [I 0,I 0,.nils,S em])).set (h.length+1) (.cells [Bo false])∧qa8 e.t 4=.ptr h.length 0∧qa8 e.t 5=.ptr (h.length+1) 0) ?_ ((qda (E:=⟨10,c2,e2.h,w2⟩) _ [] _ rfl ?_) c2 _ w2 s2 (Ent.ok.refl 10 s2.hs))))
   ·
    rintro x a w3 ⟨x',e3,c3,⟨rfl,h3,l4',l5'⟩,hx,s3',k3'⟩;cases x<;>simp only [XR] at hx;show Code.wp _ _ _ _ _;refine wp_ret ?_;have hle3:c1.le c3:=hle.trans k3'.ext;show Leaves _ _ _ _ (a.defers++_) _ _;rw [s3'.defers,List.nil_append];refine leaves_cons (f:=116) (args:=#[tm[4],tm[5]]) (by simp) (by simp [invoke]) ((c_run1_ret s3'.hs (hd4 c3 hle3)).mono ?_);rintro en u' w4 ⟨⟨v4,rfl⟩,rfl,c4,s4,k4⟩;have sim4:Sim 10 c4 e3 a w4:=⟨s3'.defers,s3'.size,fun i=>(s3'.tmps i).mono k4.ext,s4⟩
    have e3a:e3.h[h.length]?=some (.cells [I 0,I 0,.nils,S em]):=by rw [h3];simp [n4]
    have e3b:e3.h[h.length+1]?=some (.cells [Bo false]):=by rw [h3];simp [n5]
    have kk:(⟨10,c,h,w⟩:Ent).ok c4 e3.h w4:=((k1.trans k2).trans k3').trans k4;obtain ⟨v5,h5,h6⟩:=fin c4 e3 a w4 (e2.h.take h.length) [I 0,I 0,.nils,S em] false sim4 kk l4' l5' e3a rfl (by simp [qbc,AV.norm,qaw,AV.under]) e3b (by
     rw [h3];exact hwk_take2 (by omega)) (by simp;omega) hu2 (by simpa [qbc,AV.norm,zs] using hRR)
    exact ⟨v5,h5,h6⟩
   ·
    have hN:(⟨10,c2,e2.h,w2⟩:Ent).N=10:=rfl;have g5':(e2.h.set h.length (AObj.cells [I 0,I 0,.nils,S em]))[h.length+1]?=some (.cells [x5]):=by rw [List.getElem?_set_ne (by omega)];exact g5
    simp -dsimp [go_sem,hN,l4,l5,g4,g5,lx4]
    try rw [show x4.drop 4=[] from List.drop_eq_nil_of_le (by omega)]
    try simp -dsimp [go_sem,g5',l4,l5]
  | panic v =>
   obtain ⟨hv,l4,l5⟩:=hq;obtain ⟨⟨x4,g4,lx4⟩,⟨x5,g5⟩,hu2,hRR⟩:=hR _ _ hv hlen;split at hRR
   · rename_i he;cases he
   ·
    rename_i st he;cases he;obtain ⟨hst,hone,hun,hRR⟩:=hRR;cases x with
    | panic ch =>
     cases ch with
     | nil=>simp [XR] at hx
     | cons p l =>
      cases l with
      | cons=>simp [XR] at hx
      | nil =>
       obtain ⟨u,rc,gx⟩:=p;cases rc<;>cases gx<;>simp only [XR] at hx;show Leaves _ _ _ _ (a.defers++_) _ _;rw [s2.defers,List.nil_append];refine leaves_cons (f:=116) (args:=#[tm[4],tm[5]]) (by simp) (by simp [invoke]) ((c_run1_pan s2.hs (hd4 c2 hle) hst x4 g4 lx4 x5 g5 (by omega) hone hx).mono ?_);rintro en u' w4 ⟨⟨v4,rfl⟩,rfl,c4,s4,k4⟩;have n4:h.length<e2.h.length:=by omega
       have n5:h.length+1<e2.h.length:=by omega
       have sim4:Sim 10 c4 ⟨e2.t,(e2.h.set h.length (.cells st)).set (h.length+1) (.cells [Bo true])⟩ a w4:=⟨s2.defers,s2.size,fun i=>(s2.tmps i).mono k4.ext,s4⟩
       have kk:(⟨10,c,h,w⟩:Ent).ok c4 ((e2.h.set h.length (.cells st)).set (h.length+1) (.cells [Bo true])) w4:=(k1.trans k2).trans k4;have hnorm:qbc ((e2.h.set h.length (.cells st)).set (h.length+1) (.cells [Bo true])) st=st:=hst' _ _ hv _;obtain ⟨v5,h5,h6⟩:=fin c4 ⟨e2.t,(e2.h.set h.length (.cells st)).set (h.length+1) (.cells [Bo true])⟩ a w4 (e2.h.take h.length) st true sim4 kk l4 l5 (by simp [n4]) hst (by rw [hnorm];exact hun) (by simp [n5]) (hwk_take2 (by omega)) (by simp;omega) hu2 (by rw [hnorm];exact hRR);exact ⟨v5,h5,h6⟩
    | _=>simp [XR] at hx
   · exact hRR.elim
  | _=>exact hq.elim
 ·
  have hN:(⟨10,c1,h++[.cells [I 0,I 0,.nils,S em],.cells [Bo false]],w1⟩:Ent).N=10:=rfl;simp -dsimp [go_sem,hN];refine qan hg fun r h' hr=>?_;cases r<;>simp [go_sem,hr];exact ⟨_,hr⟩
end Go.Proofs.YtcjolkgjhcdhcaaGreatDoor

set_option maxRecDepth 4000
namespace Go.Proofs.YtcjolkgjhcdhcaaGreatDoor
open Go Go.Abs Go.Cw
attribute [go_sem] eqVal eqP eqB eqA fitA
theorem c_ref06_Same (l l':List Pr):APure Tryz.prog 15 [.slice (l.map Pr.c),.slice (l'.map Pr.c)] (Bo (qde eqP l l')):=by
 refine qaj Tryz.func15 Tryz.ntmps15 rfl (by kernel_rfl) rfl rfl fun E h hN hh hu hb=>?_;simp [go_sem] at hb;simp -dsimp [go_sem,hN];refine cnd ?_ ?_<;>intro h0<;>simp at h0
 ·
  simp -dsimp [go_sem,hN];exact sameL_len (by omega)
 simp -dsimp [go_sem,hN];refine qaf l.length (fun n=>qde eqP (l.drop n) (l'.drop n)=qde eqP l l') (fun n=>⟨[(0,.slice (l.map Pr.c)),(1,.slice (l'.map Pr.c)),(5,I n)],h⟩) (by simp) wkA ?_;intro n hn hI;have hw:=qaq hn hb.1.1;simp -dsimp [go_sem,hN];refine cnd ?_ ?_<;>intro hc<;>simp at hc
 ·
  have hc':n<l'.length:=by omega
  rw [qad hc,qad hc',qde] at hI;simp -dsimp [go_sem,hN,hc,hc'];refine qah 8 mixed (by kernel_rfl) (by kernel_rfl) ?_;simp -dsimp [go_sem,hN,hc,hc'];refine cnd ?_ ?_<;>intro hg<;>simp at hg
  ·
   simp -dsimp [go_sem,hN];rw [← hI];simp [eqP,eqVal];grind
  ·
   simp -dsimp [go_sem,hN,hw];refine ⟨hc,?_,wkA⟩;rw [← hI];simp [eqP,eqVal,hg]
 ·
  rw [List.drop_eq_nil_of_le (by omega),List.drop_eq_nil_of_le (by omega),qde] at hI;simp -dsimp [go_sem,hN,← hI]
theorem c_sameKeys (l l':List qac):APure Tryz.prog 75 [.slice (l.map qbd),.slice (l'.map qbd)] (Bo (qde eqB l l')):=by
 refine qaj Tryz.func75 Tryz.ntmps75 rfl (by kernel_rfl) rfl rfl fun E h hN hh hu hb=>?_;simp [go_sem] at hb;simp -dsimp [go_sem,hN];refine cnd ?_ ?_<;>intro h0<;>simp at h0
 ·
  simp -dsimp [go_sem,hN];exact sameL_len (by omega)
 simp -dsimp [go_sem,hN];refine qaf l.length (fun n=>qde eqB (l.drop n) (l'.drop n)=qde eqB l l') (fun n=>⟨[(0,.slice (l.map qbd)),(1,.slice (l'.map qbd)),(5,I n)],h⟩) (by simp) wkA ?_;intro n hn hI;have hw:=qaq hn hb.1.1;simp -dsimp [go_sem,hN];refine cnd ?_ ?_<;>intro hc<;>simp at hc
 ·
  have hc':n<l'.length:=by omega
  rw [qad hc,qad hc',qde] at hI;simp -dsimp [go_sem,hN,hc,hc'];refine qah 8 mixed (by kernel_rfl) (by kernel_rfl) ?_;simp -dsimp [go_sem,hN,hc,hc'];refine cnd ?_ ?_<;>intro hg<;>simp at hg
  ·
   simp -dsimp [go_sem,hN];rw [← hI];simp [eqB,eqVal];grind
  ·
   simp -dsimp [go_sem,hN,hw];refine ⟨hc,?_,wkA⟩;rw [← hI];simp [eqB,eqVal,hg]
 ·
  rw [List.drop_eq_nil_of_le (by omega),List.drop_eq_nil_of_le (by omega),qde] at hI;simp -dsimp [go_sem,hN,← hI]
set_option maxHeartbeats 1000000 in
theorem c_ref15_Same (a b:Eff):APure Tryz.prog 45 [.agg a.c,.agg b.c] (Bo (sameE a b)):=by
 refine qaj Tryz.func45 Tryz.ntmps45 rfl (by kernel_rfl) rfl rfl fun E h hN hh hu hb=>?_;simp [go_sem] at hb;simp -dsimp [go_sem,hN];refine qa6 7 mixed (by kernel_rfl) ?_;simp -dsimp [go_sem,hN];refine ⟨by simp [sepD,List.zipIdx],?_⟩;refine cnd ?_ ?_<;>intro h0<;>simp at h0
 ·
  simp -dsimp [go_sem,hN];have:sameE a b=false:=by
   rcases h0 with (h0 | h0) | h0
   · simp [sameE,h0]
   · simp [sameE,h0]
   · simp [sameE,sameL_len (f:=eqVal) (l:=a.out) (l':=b.out) (by omega)]
  rw [this]
 simp -dsimp [go_sem,hN];refine qaf a.out.length (fun n=>qde eqVal (a.out.drop n) (b.out.drop n)=qde eqVal a.out b.out) (fun n=>⟨[(2,.ptr h.length 0),(3,.ptr (h.length+1) 0),(5,.ptr (h.length+2) 0),(6,.ptr (h.length+3) 0),(7,I n)],h++[.cells a.c,.cells b.c,.cells [I a.status,I a.code,.slice (a.out.map V.c)],.cells [I b.status,I b.code,.slice (b.out.map V.c)]]⟩) (by simp) wkA ?_;intro n hn hI;have hw:=qaq hn hb.1.1.1;simp -dsimp [go_sem,hN];refine cnd ?_ ?_<;>intro hc<;>simp at hc
 ·
  have hc':n<b.out.length:=by omega
  rw [qad hc,qad hc',qde] at hI;simp -dsimp [go_sem,hN,hc,hc'];refine qah 10 mixed (by kernel_rfl) (by kernel_rfl) ?_;simp -dsimp [go_sem,hN,hc,hc'];refine cnd ?_ ?_<;>intro hg<;>simp at hg
  ·
   simp -dsimp [go_sem,hN];have:qde eqVal a.out b.out=false:=by
    rw [← hI];simp [eqVal];grind
   simp [sameE,this]
  ·
   simp -dsimp [go_sem,hN,hw];refine ⟨hc,?_,wkA⟩;rw [← hI];simp [eqVal,hg]
 ·
  rw [List.drop_eq_nil_of_le (by omega),List.drop_eq_nil_of_le (by omega),qde] at hI;simp -dsimp [go_sem,hN];refine qaa (c_sameKeys _ _) ?_;simp -dsimp [go_sem,hN];refine qae (c_sameKeys _ _) (by simp) ?_;simp -dsimp [go_sem,hN];refine qae (c_ref06_Same _ _) (by simp) ?_;simp -dsimp [go_sem,hN,sameE,h0,← hI]
theorem c_ref15_Has (l:List qac) (k:qac):APure Tryz.prog 224 [.slice (l.map qbd),S k] (Bo (qcr l k)):=by
 refine qaj Tryz.func224 Tryz.ntmps224 rfl (by kernel_rfl) rfl rfl fun E h hN hh hu hb=>?_;simp [go_sem] at hb;simp -dsimp [go_sem,hN];refine qaf l.length (fun n=>qcr (l.drop n) k=qcr l k) (fun n=>⟨[(0,.slice (l.map qbd)),(1,S k),(5,I n)],h⟩) (by simp) wkA ?_;intro n hn hI;have hw:=qaq hn hb.1.1;simp -dsimp [go_sem,hN];refine cnd ?_ ?_<;>intro hc<;>simp at hc
 ·
  rw [qad hc,qcr,anyL] at hI;simp -dsimp [go_sem,hN,hc];refine cnd ?_ ?_<;>intro hg<;>simp at hg
  ·
   simp -dsimp [go_sem,hN];simp [← hI,hg]
  ·
   simp -dsimp [go_sem,hN,hw];exact ⟨hc,by simpa [hg,qcr] using hI,wkA⟩
 ·
  rw [List.drop_eq_nil_of_le (by omega),qcr,anyL] at hI;simp -dsimp [go_sem,hN,← hI]
theorem c_Index_S (l:List qac) (k:qac):APure Tryz.prog 80 [.slice (l.map qbd),S k] (I (idxOf (fun x=>decide (k=x)) l)):=by
 refine qaj Tryz.func80 Tryz.ntmps80 rfl (by kernel_rfl) rfl rfl fun E h hN hh hu hb=>?_;simp [go_sem] at hb;simp -dsimp [go_sem,hN];refine qaf l.length (fun n=>qbw (fun x=>decide (k=x)) n (l.drop n)=idxOf (fun x=>decide (k=x)) l) (fun n=>⟨[(0,.slice (l.map qbd)),(1,S k),(7,I l.length),(8,I n)],h⟩) (by simp [idxOf]) wkA ?_;intro n hn hI;have hw:=qaq hn hb.1.1;simp -dsimp [go_sem,hN];refine cnd ?_ ?_<;>intro hc<;>simp at hc
 ·
  rw [qad hc,qbw] at hI;simp -dsimp [go_sem,hN,hc];refine cnd ?_ ?_<;>intro hg<;>simp at hg
  ·
   simp -dsimp [go_sem,hN];simpa [hg] using hI
  ·
   simp -dsimp [go_sem,hN,hw];exact ⟨hc,by simpa [hg] using hI,wkA⟩
 ·
  rw [List.drop_eq_nil_of_le (by omega),qbw] at hI;simp -dsimp [go_sem,hN,← hI]
theorem c_Contains_S (l:List qac) (k:qac):APure Tryz.prog 53 [.slice (l.map qbd),S k] (Bo (qcr l k)):=by
 refine qaj Tryz.func53 Tryz.ntmps53 rfl (by kernel_rfl) rfl rfl fun E h hN hh hu hb=>?_;simp -dsimp [go_sem,hN];refine qaa (c_Index_S l k) ?_;simp -dsimp [go_sem,hN,idxOf_nonneg];simp [qcr,eq_comm]
end Go.Proofs.YtcjolkgjhcdhcaaGreatDoor
