/- Part 31 of a proof: R1, W1, W2, W3, W4, W5 -/
import Derived.Test.YtilhejdbiionhaaGreatDoorV13
import Derived.Test.YtilhejdbiionhaaGreatDoorV22
import Derived.Test.YtilhejdbiionhaaGreatDoorV30
set_option linter.all false

namespace Go.Proofs.YtilhejdbiionhaaGreatDoor
open Go Go.Abs Go.Cw
@[simp] theorem any20:anyT Tryz.prog 20=true:=by kernel_rfl
theorem c_run1_ret {c:Ctx} {h:qab} {w:World} (hs:HSim c h w) {i4 i5:Nat} {vs:Array Value} (ha:RelL c [.ptr i4 0,.ptr i5 0] vs) :
  CallsD Tryz.prog 72 vs .returning w fun e u' w'=>(∃ v,e=.returned v)∧u'=.returning∧∃ c',HSim c' h w'∧(⟨12,c,h,w⟩:Ent).ok c' h w':=by
 refine callsD_of_wpS Tryz.func72 rfl fun c₀ cs hu=>?_;have s0:=sim_enter (N:=12) hs ha (by simp);refine wpS_seq (wpS_region ?_);simp [wpOpsS,go_sem,recoverD,hu,Exit.thenS,Tryz.ntmps72];obtain ⟨q1,q2,q3,q4,q5,q6,q7⟩:=c₀;simp only at hu;subst hu;have s1:=s0.put (.refl c) hs (d:=some 5) (by simp) (Rel.val Value.nilIface);refine wpS_fn (E:=⟨12,c,h,w⟩) (c₀:=⟨q1,q2,q3,q4,.returning,q6,q7⟩) (U:=.returning) (cs:=cs) (fn:=Tryz.f72) s1 (Ent.ok.refl 12 hs) (H:=h) (n0:=h.length) (Nat.le_refl _) ?_;refine qay _ _ _ ?_;have hN:(⟨12,c,h,w⟩:Ent).N=12:=rfl;have hu':=hs.hUnder;simp -dsimp [go_sem,hN,Tryz.f72,hu'];exact ⟨.tuple [],.refl _,h,rfl,hwk.refl _,Nat.le_refl _,hu',rfl,rfl⟩
@[simp] theorem za74:zeroAV Tryz.prog 87=some (.agg [I 0,I 0,.nils,S em]):=by kernel_rfl
theorem c_run1_pan {c:Ctx} {h:qab} {w:World} (hs:HSim c h w) {i4 i5:Nat} {vs:Array Value} (ha:RelL c [.ptr i4 0,.ptr i5 0] vs) {st:List AV} (hst:st.length=4) (x4:List AV) (h4:h[i4]?=some (.cells x4)) (hx4:x4.length=4) (x5:AV) (h5:h[i5]?=some (.cells [x5])) (h45:i4≠i5) (hds:st.all AV.one=true)
  {v:Value} (hv:Rel c (.iface 87 (.agg st)) v) :
  CallsD Tryz.prog 72 vs (.panicking [⟨v,false,false⟩]) w fun e u' w'=>(∃ v,e=.returned v)∧u'=.panicking [⟨v,true,false⟩]∧∃ c',HSim c' ((h.set i4 (.cells st)).set i5 (.cells [Bo true])) w'∧(⟨12,c,h,w⟩:Ent).ok c' ((h.set i4 (.cells st)).set i5 (.cells [Bo true])) w':=by
 refine callsD_of_wpS Tryz.func72 rfl fun c₀ cs hu=>?_;have s0:=sim_enter (N:=12) hs ha (by simp);refine wpS_seq (wpS_region ?_);simp [wpOpsS,go_sem,recoverD,hu,Exit.thenS,Tryz.ntmps72];have s1:=s0.put (.refl c) hs (d:=some 5) (by simp) hv;refine wpS_fn (E:=⟨12,c,h,w⟩) (c₀:=c₀) (U:=.panicking [⟨v,true,false⟩]) (cs:=cs) (fn:=Tryz.f72) s1 (Ent.ok.refl 12 hs) (H:=(h.set i4 (.cells st)).set i5 (.cells [Bo true])) (n0:=h.length) (Nat.le_refl _) ?_;refine qay _ _ _ ?_;have hN:(⟨12,c,h,w⟩:Ent).N=12:=rfl;have hu':=hs.hUnder;have l4:i4<h.length:=(List.getElem?_eq_some_iff.1 h4).1;have l5:i5<h.length:=(List.getElem?_eq_some_iff.1 h5).1;obtain ⟨a,b,d,e,rfl⟩:∃ a b d e,st=[a,b,d,e]:=by
  match st,hst with
  | [a,b,d,e],_=>exact ⟨a,b,d,e,rfl⟩
 have hun:qam h.length [a,b,d,e]=true:=by
  have:=hv.under hs.dom;simpa [AV.under] using this
 have a4:(h++[AObj.cells [a,b,d,e]])[i4]?=some (.cells x4):=by rw [List.getElem?_append_left l4];exact h4
 have a5:((h++[AObj.cells [a,b,d,e]]).set i4 (AObj.cells [a,b,d,e]))[i5]?=some (.cells [x5]):=by rw [List.getElem?_set_ne h45,List.getElem?_append_left l5];exact h5
 simp -dsimp [go_sem,hN,Tryz.f72,hu',a4,a5,hx4];rw [show x4.drop 4=[] from List.drop_eq_nil_of_le (by omega),a5];refine ⟨by simp,.tuple [],.refl _,_,rfl,?_,?_,?_,rfl,rfl⟩
 ·
  rw [List.set_append_left _ _ l4,List.set_append_left _ _ (by simpa using l5)];exact hwk.app0 _
 · simp
 ·
  simp only [List.length_set];exact qcc (qcc hu' hun) (by simp [AObj.under,qam,AV.under])
def zs:List AV:=[I 0,I 0,.slice [],S em]
theorem c_interp_run (m:AV) {g:FuncId} {first caps:List AV} {h:qab} {Rg R:AEnd→qab→Prop} (hg:ACalls Tryz.prog g (qbf (h++[.cells [I 0,I 0,.nils,S em],.cells [Bo false]]) (first++caps)) (h++[.cells [I 0,I 0,.nils,S em],.cells [Bo false]]) Rg)
  (hR:∀ r h',Rg r h'→h.length+2≤h'.length→(∃ x4,h'[h.length]?=some (.cells x4)∧x4.length=4)∧(∃ x5,h'[h.length+1]?=some (.cells [x5]))∧hUnder h.length (h'.take h.length)=true∧match r with
   | .ret _=>R (.ret (.tuple [.agg zs,Bo false])) (h'.take h.length)
   | .panic (.iface 87 (.agg st))=>st.length=4∧st.all AV.one=true∧qam h.length st=true∧R (.ret (.tuple [.agg st,Bo true])) (h'.take h.length)
   | _=>False) (hst':∀ h' st,Rg (.panic (.iface 87 (.agg st))) h'→∀ H,qbf H st=st):ACalls Tryz.prog 43 [m,.fn (.func g) first caps] h R:=by
 refine ⟨⟨_,Tryz.func43,by kernel_rfl,by kernel_rfl⟩,fun c w vs hs ha=>?_⟩;refine calls_of_wp_defers Tryz.func43 rfl ?_;have s0:=sim_enter (N:=10) hs ha (by simp);have k0:=Ent.ok.refl 10 hs;rw [Tryz.ntmps43];refine wp_seq (wp_mono ((awp_opsG (E:=⟨10,c,h,w⟩) (Q:=fun x e=>x=.normal∧e=⟨[(5,.ptr (h.length+1) 0),(4,.ptr h.length 0),(0,m),(1,.fn (.func g) first caps)],h++[.cells [I 0,I 0,.nils,S em],.cells [Bo false]]⟩) ?_) c _ w s0 k0) ?_)
 ·
  have hN:(⟨10,c,h,w⟩:Ent).N=10:=rfl;simp -dsimp [go_sem,hN]
 rintro ex a1 w1 ⟨x',e1,c1,⟨rfl,rfl⟩,hx,s1,k1⟩;cases ex<;>simp only [XR] at hx;show Code.wp _ _ _ a1 w1;have t4:=s1.tmps 4;have t5:=s1.tmps 5;have t1:=s1.tmps 1;simp [qbb] at t4 t5 t1;refine wp_seq (wp_region_list ?_);have sz:a1.tmps.size=10:=s1.size;have df:a1.defers=[]:=s1.defers;obtain ⟨tm,dfs⟩:=a1;simp only at sz df;subst df;simp [wpList,go_sem,Oper.wp,Oper.upon,Instr.makeFunc,sz];refine .inl (.inl ?_);have s3:=s1.put (.refl c1) s1.hs (d:=some 6) (by simp) (Rel.top (Value.func (Fn.func 72) #[] #[tm[4],tm[5]]));have E3:({ tmps:=tm.setIfInBounds 6 (Value.func (Fn.func 72) #[] #[tm[4],tm[5]]),defers:=[{ target:=Target.fn (Fn.func 72) #[tm[4],tm[5]],args:=#[] }] }:Act)=ddf [{ target:=Target.fn (Fn.func 72) #[tm[4],tm[5]],args:=#[] }] (({ tmps:=tm,defers:=[] }:Act).put (some 6) (Value.func (Fn.func 72) #[] #[tm[4],tm[5]])):=rfl;rw [E3];have hd4:∀ c',c1.le c'→RelL c' [.ptr h.length 0,.ptr (h.length+1) 0] #[tm[4],tm[5]]:=fun c' hle=>⟨rfl,fun j x v hx hv=>by
  match j with
  | 0=>simp at hx hv;subst hx;subst hv;simpa [sz] using t4.mono hle
  | 1=>simp at hx hv;subst hx;subst hv;simpa [sz] using t5.mono hle
  | j+2=>simp at hx⟩
 -- what stands behind the deferred call
 have fin:∀ (c5:Ctx) (e5:Env) (a5:Act) (w5:World) (hf:qab) (st:List AV) (b:Bool),Sim 10 c5 e5 a5 w5→(⟨10,c,h,w⟩:Ent).ok c5 e5.h w5→qbb e5.t 4=.ptr h.length 0→qbb e5.t 5=.ptr (h.length+1) 0 →
   e5.h[h.length]?=some (.cells st)→st.length=4→qam h.length (qbf e5.h st)=true→e5.h[h.length+1]?=some (.cells [Bo b])→hwk e5.h hf→hf.length=h.length→hUnder h.length hf=true→R (.ret (.tuple [.agg (qbf e5.h st),Bo b])) hf →
   ∃ v,(results Tryz.f43 a5.tmps).run Tryz.prog w5=.ok v w5∧∃ r h',R r h'∧∃ x,EndR x r (.returned v)∧HSim x h' w5∧(⟨0,c,h,w⟩:Ent).ok x h' w5:=by
  intro c5 e5 a5 w5 hf st b s5 k5 l4 l5 g4 hst hun g5 hw hl hu hRR;obtain ⟨v,hv,hr⟩:=results_ok (E:=⟨10,c,h,w⟩) (P:=Tryz.prog) s5 Tryz.f43 (by
   simp [Tryz.f43,go_sem,l4,l5,g4,g5,hst])
  have hval:(mkRes ((Tryz.f43).results.toList.map fun r=>(resSV Tryz.prog e5 r).val))=.tuple [.agg st,Bo b]:=by
   have ht:st.take 4=st:=List.take_of_length_le (by omega);simp [Tryz.f43,go_sem,l4,l5,g4,g5,ht]
  rw [hval] at hr;obtain ⟨c6,q1,q2,q3⟩:=finish (E:=⟨10,c,h,w⟩) s5 k5 hr (r':=.tuple [.agg (qbf e5.h st),Bo b]) (h':=hf) (by simp [AV.norm,qbf]) (by simp [AV.under,qam,hl];exact hun) hw (by simp [hl]) (by rw [hl];exact hu);exact ⟨v,hv,_,hf,hRR,c6,q3,q1,q2.withN 0⟩
 have k3:(⟨10,c1,h++[.cells [I 0,I 0,.nils,S em],.cells [Bo false]],w1⟩:Ent).ok c1 (h++[.cells [I 0,I 0,.nils,S em],.cells [Bo false]]) w1:=Ent.ok.refl 10 s1.hs;refine wp_seq (wp_region_list (wpList_ddf (Q:=conc ⟨10,c1,h++[.cells [I 0,I 0,.nils,S em],.cells [Bo false]],w1⟩ fun x e=>match x with
  | .normal=>(∃ v,Rg (.ret v) e.h)∧qbb e.t 4=.ptr h.length 0∧qbb e.t 5=.ptr (h.length+1) 0
  | .panic v=>Rg (.panic v) e.h∧qbb e.t 4=.ptr h.length 0∧qbb e.t 5=.ptr (h.length+1) 0
  | _=>False) ?_ ((qcb (E:=⟨10,c1,h++[.cells [I 0,I 0,.nils,S em],.cells [Bo false]],w1⟩) _ [] _ rfl ?_) c1 _ w1 s3 k3)))
 ·
  rintro x a w2 ⟨x',e2,c2,hq,hx,s2,k2⟩;have hle:c1.le c2:=k2.ext;have hlen:h.length+2≤e2.h.length:=by simpa using k2.len
  cases x' with
  | normal =>
   cases x<;>simp only [XR] at hx;obtain ⟨⟨v,hv⟩,l4,l5⟩:=hq;obtain ⟨⟨x4,g4,lx4⟩,⟨x5,g5⟩,hu2,hRR⟩:=hR _ _ hv hlen;show Code.wp _ _ _ _ _;have n4:h.length<e2.h.length:=by omega
   have n5:h.length+1<e2.h.length:=by omega
   refine wp_seq (wp_region_list (wpList_ddf (Q:=conc ⟨10,c2,e2.h,w2⟩ fun x e=>x=.normal∧e.h=(e2.h.set h.length (.cells [I 0,I 0,.nils,S em])).set (h.length+1) (.cells [Bo false])∧qbb e.t 4=.ptr h.length 0∧qbb e.t 5=.ptr (h.length+1) 0) ?_ ((qcb (E:=⟨10,c2,e2.h,w2⟩) _ [] _ rfl ?_) c2 _ w2 s2 (Ent.ok.refl 10 s2.hs))))
   ·
    rintro x a w3 ⟨x',e3,c3,⟨rfl,h3,l4',l5'⟩,hx,s3',k3'⟩;cases x<;>simp only [XR] at hx;show Code.wp _ _ _ _ _;refine wp_ret ?_;have hle3:c1.le c3:=hle.trans k3'.ext;show Leaves _ _ _ _ (a.defers++_) _ _;rw [s3'.defers,List.nil_append];refine leaves_cons (f:=72) (args:=#[tm[4],tm[5]]) (by simp) (by simp [invoke]) ((c_run1_ret s3'.hs (hd4 c3 hle3)).mono ?_);rintro en u' w4 ⟨⟨v4,rfl⟩,rfl,c4,s4,k4⟩;have sim4:Sim 10 c4 e3 a w4:=⟨s3'.defers,s3'.size,fun i=>(s3'.tmps i).mono k4.ext,s4⟩
    have e3a:e3.h[h.length]?=some (.cells [I 0,I 0,.nils,S em]):=by rw [h3];simp [n4]
    have e3b:e3.h[h.length+1]?=some (.cells [Bo false]):=by rw [h3];simp [n5]
    have kk:(⟨10,c,h,w⟩:Ent).ok c4 e3.h w4:=((k1.trans k2).trans k3').trans k4;obtain ⟨v5,h5,h6⟩:=fin c4 e3 a w4 (e2.h.take h.length) [I 0,I 0,.nils,S em] false sim4 kk l4' l5' e3a rfl (by simp [qbf,AV.norm,qam,AV.under]) e3b (by
     rw [h3];exact hwk_take2 (by omega)) (by simp;omega) hu2 (by simpa [qbf,AV.norm,zs] using hRR)
    exact ⟨v5,h5,h6⟩
   ·
    have hN:(⟨10,c2,e2.h,w2⟩:Ent).N=10:=rfl;have g5':(e2.h.set h.length (AObj.cells [I 0,I 0,.nils,S em]))[h.length+1]?=some (.cells [x5]):=by rw [List.getElem?_set_ne (by omega)];exact g5
    simp -dsimp [go_sem,hN,l4,l5,g4,g5,lx4]
    try rw [show x4.drop 4=[] from List.drop_eq_nil_of_le (by omega)]
    try simp -dsimp [go_sem,g5',l4,l5]
  | panic v =>
   obtain ⟨hv,l4,l5⟩:=hq;obtain ⟨⟨x4,g4,lx4⟩,⟨x5,g5⟩,hu2,hRR⟩:=hR _ _ hv hlen;split at hRR
   · rename_i he;cases he
   ·
    rename_i st he;cases he;obtain ⟨hst,hone,hun,hRR⟩:=hRR;cases x with
    | panic ch =>
     cases ch with
     | nil=>simp [XR] at hx
     | cons p l =>
      cases l with
      | cons=>simp [XR] at hx
      | nil =>
       obtain ⟨u,rc,gx⟩:=p;cases rc<;>cases gx<;>simp only [XR] at hx;show Leaves _ _ _ _ (a.defers++_) _ _;rw [s2.defers,List.nil_append];refine leaves_cons (f:=72) (args:=#[tm[4],tm[5]]) (by simp) (by simp [invoke]) ((c_run1_pan s2.hs (hd4 c2 hle) hst x4 g4 lx4 x5 g5 (by omega) hone hx).mono ?_);rintro en u' w4 ⟨⟨v4,rfl⟩,rfl,c4,s4,k4⟩;have n4:h.length<e2.h.length:=by omega
       have n5:h.length+1<e2.h.length:=by omega
       have sim4:Sim 10 c4 ⟨e2.t,(e2.h.set h.length (.cells st)).set (h.length+1) (.cells [Bo true])⟩ a w4:=⟨s2.defers,s2.size,fun i=>(s2.tmps i).mono k4.ext,s4⟩
       have kk:(⟨10,c,h,w⟩:Ent).ok c4 ((e2.h.set h.length (.cells st)).set (h.length+1) (.cells [Bo true])) w4:=(k1.trans k2).trans k4;have hnorm:qbf ((e2.h.set h.length (.cells st)).set (h.length+1) (.cells [Bo true])) st=st:=hst' _ _ hv _;obtain ⟨v5,h5,h6⟩:=fin c4 ⟨e2.t,(e2.h.set h.length (.cells st)).set (h.length+1) (.cells [Bo true])⟩ a w4 (e2.h.take h.length) st true sim4 kk l4 l5 (by simp [n4]) hst (by rw [hnorm];exact hun) (by simp [n5]) (hwk_take2 (by omega)) (by simp;omega) hu2 (by rw [hnorm];exact hRR);exact ⟨v5,h5,h6⟩
    | _=>simp [XR] at hx
   · exact hRR.elim
  | _=>exact hq.elim
 ·
  have hN:(⟨10,c1,h++[.cells [I 0,I 0,.nils,S em],.cells [Bo false]],w1⟩:Ent).N=10:=rfl;simp -dsimp [go_sem,hN];refine qaj hg fun r h' hr=>?_;cases r<;>simp [go_sem,hr];exact ⟨_,hr⟩
end Go.Proofs.YtilhejdbiionhaaGreatDoor

namespace Go.Proofs.YtilhejdbiionhaaGreatDoor
open Go Go.Abs Go.Cw
theorem mixed:Tryz.prog.follows .mixedOrders=true:=by kernel_rfl
theorem c_value_plain (s:qac):APure Tryz.prog 150 [S s] (Bo (qb1 s)):=by
 refine qap Tryz.func150 Tryz.ntmps150 rfl (by kernel_rfl) rfl rfl fun E h hN hh hu hb=>?_;simp [go_sem] at hb;simp -dsimp [go_sem,hN];refine qao s.size (fun n=>allL okB ((bl s).drop n)=allL okB (bl s)) (fun n=>⟨[(0,S s),(3,I n)],h⟩) (by simp) wkA ?_;intro n hn hI;have hw:=qa3 hn hb;simp -dsimp [go_sem,hN];refine cnd ?_ ?_<;>intro hc<;>try simp at hc
 ·
  rw [bdrop hc,allL] at hI;simp -dsimp [go_sem,hN,hc];refine cnd (fun hg=>?_) (fun hg=>?_)
  ·
   simp -dsimp [go_sem,hN];simp [qb1,← hI,okB,hg]
  ·
   simp -dsimp [go_sem,hN,hw];exact ⟨hc,by simpa [okB,hg] using hI,wkA⟩
 ·
  rw [bend (by omega),allL] at hI;simp -dsimp [go_sem,hN,qb1,← hI]
theorem c_value_Valid (k n:Int) (s:qac):APure Tryz.prog 95 [.agg [I k,I n,S s]] (Bo (valOk k n s)):=by
 refine qap Tryz.func95 Tryz.ntmps95 rfl (by kernel_rfl) rfl rfl fun E h hN hh hu hb=>?_;simp -dsimp [go_sem,hN];refine cnd ?_ ?_<;>intro h0<;>try simp at h0
 all_goals simp -dsimp [go_sem,hN,valOk,h0]
 refine cnd ?_ ?_<;>intro h1<;>try simp at h1
 all_goals simp -dsimp [go_sem,hN,valOk,h0,h1]
 refine cnd ?_ ?_<;>intro h2<;>try simp at h2
 all_goals simp -dsimp [go_sem,hN,valOk,h0,h1,h2]
 refine qaf (c_value_plain s) (by simp) ?_;simp -dsimp [go_sem,hN,valOk,h0,h1,h2]
theorem c_interp_variable (k n:Int) (s:qac):APure Tryz.prog 249 [.agg [I k,I n,S s]] (Bo (varOk k n s)):=by
 refine qap Tryz.func249 Tryz.ntmps249 rfl (by kernel_rfl) rfl rfl fun E h hN hh hu hb=>?_;simp -dsimp [go_sem,hN];refine cnd ?_ ?_<;>intro h0<;>try simp at h0
 all_goals simp -dsimp [go_sem,hN,varOk,h0]
 refine qaf (c_value_Valid k n s) (by simp) ?_;simp -dsimp [go_sem,hN,varOk,h0]
theorem c_keys_Valid1 (b:UInt8):APure Tryz.prog 124 [U8 b.toNat] (Bo (keyB b)):=by
 refine qap Tryz.func124 Tryz.ntmps124 rfl (by kernel_rfl) rfl rfl fun E h hN hh hu hb=>?_;simp -dsimp [go_sem,hN,keyB];omega
theorem c_keys_consists (s:qac) (f:FuncId) (p:UInt8→Bool) (hp:∀ b:UInt8,APure Tryz.prog f [U8 b.toNat] (Bo (p b))):APure Tryz.prog 123 [S s,.fn (.func f) [] []] (Bo (decide ((s.size:Int)≤24)&&allL p (bl s))):=by
 refine qap Tryz.func123 Tryz.ntmps123 rfl (by kernel_rfl) rfl rfl fun E h hN hh hu hb=>?_;simp [go_sem] at hb;simp -dsimp [go_sem,hN];refine cnd ?_ ?_<;>intro h0<;>try simp at h0
 all_goals simp -dsimp [go_sem,hN,h0]
 · simp [Int.not_le.2 h0]
 refine qao s.size (fun n=>allL p ((bl s).drop n)=allL p (bl s)) (fun n=>⟨[(0,S s),(1,.fn (.func f) [] []),(10,I s.size),(11,I n)],h⟩) (by simp) wkA ?_;intro n hn hI;have hw:=qa3 hn hb;simp -dsimp [go_sem,hN];refine cnd ?_ ?_<;>intro hc<;>try simp at hc
 ·
  rw [bdrop hc,allL] at hI;simp -dsimp [go_sem,hN,hc];refine qaa (hp _) ?_;simp -dsimp [go_sem,hN];refine cnd ?_ ?_<;>intro hg<;>try simp at hg
  ·
   simp -dsimp [go_sem,hN];simp [h0,← hI,hg]
  ·
   simp -dsimp [go_sem,hN,hw];exact ⟨hc,by simpa [hg] using hI,wkA⟩
 ·
  rw [bend (by omega),allL] at hI;simp -dsimp [go_sem,hN,h0,← hI]
theorem c_keys_Valid (s:qac):APure Tryz.prog 77 [S s] (Bo (keyOk s)):=by
 refine qap Tryz.func77 Tryz.ntmps77 rfl (by kernel_rfl) rfl rfl fun E h hN hh hu hb=>?_;simp -dsimp [go_sem,hN];refine qaf (c_keys_consists s _ keyB c_keys_Valid1) (by simp) ?_;simp -dsimp [go_sem,hN,keyOk,Bool.and_assoc]
theorem c_interp_ascending (l:List qac):APure Tryz.prog 71 [.slice (l.map qa1)] (Bo (ascK none l&&decide ((l.length:Int)≤64))):=by
 refine qap Tryz.func71 Tryz.ntmps71 rfl (by kernel_rfl) rfl rfl fun E h hN hh hu hb=>?_;simp [go_sem] at hb;simp -dsimp [go_sem,hN];refine qao l.length (fun n=>ascK (prevOf l n) (l.drop n)=ascK none l) (fun n=>⟨[(0,.slice (l.map qa1)),(5,.slice (l.map qa1)),(6,I l.length),(7,I n)],h⟩) (by simp [prevOf]) wkA ?_;intro n hn hI;have hw:=qa3 hn hb.1;simp -dsimp [go_sem,hN];refine cnd ?_ ?_<;>intro hc<;>try simp at hc
 ·
  rw [qae hc,ascK] at hI;simp -dsimp [go_sem,hN,hc];refine qaa (c_keys_Valid _) ?_;cases n with
  | zero =>
   simp -dsimp [go_sem,hN];refine cnd ?_ ?_<;>intro hg<;>try simp at hg
   ·
    simp -dsimp [go_sem,hN];simp [← hI,hg,prevOf,after]
   ·
    simp -dsimp [go_sem,hN,hw];exact ⟨hc,by simpa [hg,prevOf,hc,after] using hI,wkA⟩
  | succ m =>
   have hm:m<l.length:=by omega
   have hw2:=wrapN (Nat.le_of_lt hm) hb.1;simp at hw;simp -dsimp [go_sem,hN,hw2,hm];refine cnd ?_ ?_<;>intro hg<;>try simp at hg
   ·
    simp -dsimp [go_sem,hN];rw [← hI];rcases hg with h1 | h1<;>simp [prevOf,hm,after,h1]
   ·
    simp -dsimp [go_sem,hN,hw];simp [hg,prevOf,hm,after] at hI;exact ⟨hc,by simpa [prevOf,hc] using hI,wkA⟩
 ·
  rw [List.drop_eq_nil_of_le (by omega),ascK] at hI;simp -dsimp [go_sem,hN,← hI]
theorem c_interp_valid (a:Bool) (r w:List qac):APure Tryz.prog 39 [.agg [Bo a,.slice (r.map qa1),.slice (w.map qa1)]] (Bo (footOk a r w)):=by
 refine qap Tryz.func39 Tryz.ntmps39 rfl (by kernel_rfl) rfl rfl fun E h hN hh hu hb=>?_;simp -dsimp [go_sem,hN];refine cnd ?_ ?_<;>intro h0<;>try simp at h0
 all_goals simp -dsimp [go_sem,hN,footOk,h0]
 refine qaa (c_interp_ascending r) ?_;simp -dsimp [go_sem,hN];refine qaf (c_interp_ascending w) (by simp) ?_;simp -dsimp [go_sem,hN,footOk,h0]
theorem c_state_absent (p:Pr):APure Tryz.prog 64 [.agg p.c] (Bo (decide (p.v.k=0))):=by
 refine qap Tryz.func64 Tryz.ntmps64 rfl (by kernel_rfl) rfl rfl fun E h hN hh hu hb=>?_;simp -dsimp [go_sem,hN]
theorem c_IndexFunc_Pair (l:List Pr) (f:FuncId) (p:Pr→Bool) (hp:∀ x:Pr,APure Tryz.prog f [.agg x.c] (Bo (p x))):APure Tryz.prog 96 [.slice (l.map Pr.c),.fn (.func f) [] []] (I (idxOf p l)):=by
 refine qap Tryz.func96 Tryz.ntmps96 rfl (by kernel_rfl) rfl rfl fun E h hN hh hu hb=>?_;simp [go_sem] at hb;simp -dsimp [go_sem,hN];refine qao l.length (fun n=>qco p n (l.drop n)=idxOf p l) (fun n=>⟨[(0,.slice (l.map Pr.c)),(1,.fn (.func f) [] []),(7,I l.length),(8,I n)],h⟩) (by simp [idxOf]) wkA ?_;intro n hn hI;have hw:=qa3 hn hb.1;simp -dsimp [go_sem,hN];refine cnd ?_ ?_<;>intro hc<;>try simp at hc
 ·
  rw [qae hc,qco] at hI;simp -dsimp [go_sem,hN,hc];refine qaa (hp l[n]) ?_;simp -dsimp [go_sem,hN];refine cnd ?_ ?_<;>intro hg<;>try simp at hg
  ·
   simp -dsimp [go_sem,hN];simpa [hg] using hI
  ·
   simp -dsimp [go_sem,hN,hw];exact ⟨hc,by simpa [hg] using hI,wkA⟩
 ·
  rw [List.drop_eq_nil_of_le (by omega),qco] at hI;simp -dsimp [go_sem,hN,← hI]
theorem c_ContainsFunc_Pair (l:List Pr) (f:FuncId) (p:Pr→Bool) (hp:∀ x:Pr,APure Tryz.prog f [.agg x.c] (Bo (p x))):APure Tryz.prog 63 [.slice (l.map Pr.c),.fn (.func f) [] []] (Bo (anyL p l)):=by
 refine qap Tryz.func63 Tryz.ntmps63 rfl (by kernel_rfl) rfl rfl fun E h hN hh hu hb=>?_;simp -dsimp [go_sem,hN];refine qaa (c_IndexFunc_Pair l f p hp) ?_;simp -dsimp [go_sem,hN,idxOf_nonneg]
theorem c_state_sorted (l:List Pr):APure Tryz.prog 62 [.slice (l.map Pr.c)] (Bo (sortedP none l)):=by
 refine qap Tryz.func62 Tryz.ntmps62 rfl (by kernel_rfl) rfl rfl fun E h hN hh hu hb=>?_;simp [go_sem] at hb;simp -dsimp [go_sem,hN];refine qao l.length (fun n=>sortedP ((prevOf l n).map Pr.key) (l.drop n)=sortedP none l) (fun n=>⟨[(0,.slice (l.map Pr.c)),(5,.slice (l.map Pr.c)),(6,I l.length),(7,I n)],h⟩) (by simp [prevOf]) wkA ?_;intro n hn hI;have hw:=qa3 hn hb.1;simp -dsimp [go_sem,hN];refine cnd ?_ ?_<;>intro hc<;>try simp at hc
 ·
  rw [qae hc,sortedP] at hI;simp -dsimp [go_sem,hN,hc];refine qak 22 mixed (by kernel_rfl) (by kernel_rfl) ?_;simp -dsimp [go_sem,hN];refine qa9 (c_keys_Valid _) (by simp) ?_;simp -dsimp [go_sem,hN];refine qa9 (c_value_Valid _ _ _) (by simp) ?_;cases n with
  | zero =>
   simp -dsimp [go_sem,hN];refine cnd ?_ ?_<;>intro hg<;>try simp at hg
   ·
    simp -dsimp [go_sem,hN];rw [← hI];rcases hg with h1 | h1<;>simp [prevOf,after,h1]
   ·
    simp -dsimp [go_sem,hN,hw];exact ⟨hc,by simpa [hg,prevOf,hc,after] using hI,wkA⟩
  | succ m =>
   have hm:m<l.length:=by omega
   have hw2:=wrapN (Nat.le_of_lt hm) hb.1;simp at hw;simp -dsimp [go_sem,hN,hw2,hm];refine cnd ?_ ?_<;>intro hg<;>try simp at hg
   ·
    simp -dsimp [go_sem,hN];rw [← hI];grind [prevOf,after]
   ·
    simp -dsimp [go_sem,hN,hw];simp [hg,prevOf,hm,after] at hI;exact ⟨hc,by simpa [prevOf,hc] using hI,wkA⟩
 ·
  rw [List.drop_eq_nil_of_le (by omega),sortedP] at hI;simp -dsimp [go_sem,hN,← hI]
theorem c_state_Valid (l:List Pr):APure Tryz.prog 31 [.slice (l.map Pr.c)] (Bo (qc1 l)):=by
 refine qap Tryz.func31 Tryz.ntmps31 rfl (by kernel_rfl) rfl rfl fun E h hN hh hu hb=>?_;simp -dsimp [go_sem,hN];refine qaa (c_state_sorted l) ?_;simp -dsimp [go_sem,hN];refine qaf (c_ContainsFunc_Pair l _ _ c_state_absent) (by simp) ?_;simp -dsimp [go_sem,hN,qc1]
theorem c_state_Get (l:List Pr) (k:qac):APure Tryz.prog 253 [.slice (l.map Pr.c),S k] (.agg (getP l k).c):=by
 refine qap Tryz.func253 Tryz.ntmps253 rfl (by kernel_rfl) rfl rfl fun E h hN hh hu hb=>?_;simp [go_sem] at hb;simp -dsimp [go_sem,hN];refine qao l.length (fun n=>getP (l.drop n) k=getP l k) (fun n=>⟨[(0,.slice (l.map Pr.c)),(1,S k),(4,P0 h.length),(7,.slice (l.map Pr.c)),(8,I l.length),(9,I n)],h++[.cells [I 0,I 0,S em]]⟩) (by simp) wkA ?_;intro n hn hI;have hw:=qa3 hn hb.1.1;simp -dsimp [go_sem,hN];refine cnd ?_ ?_<;>intro hc<;>try simp at hc
 ·
  rw [qae hc,getP] at hI;simp -dsimp [go_sem,hN,hc];refine cnd ?_ ?_<;>intro hg<;>try simp at hg
  ·
   simp -dsimp [go_sem,hN];simp [← hI,hg]
  ·
   simp -dsimp [go_sem,hN,hw];exact ⟨hc,by simpa [hg] using hI,wkA⟩
 ·
  rw [List.drop_eq_nil_of_le (by omega),getP] at hI;simp -dsimp [go_sem,hN,← hI]
end Go.Proofs.YtilhejdbiionhaaGreatDoor

set_option maxRecDepth 4000
namespace Go.Proofs.YtilhejdbiionhaaGreatDoor
open Go Go.Abs Go.Cw
end Go.Proofs.YtilhejdbiionhaaGreatDoor

set_option maxRecDepth 4000
namespace Go.Proofs.YtilhejdbiionhaaGreatDoor
open Go Go.Abs Go.Cw
attribute [go_sem] eqVal eqP eqB eqA fitA
theorem c_Index_S (l:List qac) (k:qac):APure Tryz.prog 222 [.slice (l.map qa1),S k] (I (idxOf (fun x=>decide (k=x)) l)):=by
 refine qap Tryz.func222 Tryz.ntmps222 rfl (by kernel_rfl) rfl rfl fun E h hN hh hu hb=>?_;simp [go_sem] at hb;simp -dsimp [go_sem,hN];refine qao l.length (fun n=>qco (fun x=>decide (k=x)) n (l.drop n)=idxOf (fun x=>decide (k=x)) l) (fun n=>⟨[(0,.slice (l.map qa1)),(1,S k),(7,I l.length),(8,I n)],h⟩) (by simp [idxOf]) wkA ?_;intro n hn hI;have hw:=qa3 hn hb.1.1;simp -dsimp [go_sem,hN];refine cnd ?_ ?_<;>intro hc<;>simp at hc
 ·
  rw [qae hc,qco] at hI;simp -dsimp [go_sem,hN,hc];refine cnd ?_ ?_<;>intro hg<;>simp at hg
  ·
   simp -dsimp [go_sem,hN];simpa [hg] using hI
  ·
   simp -dsimp [go_sem,hN,hw];exact ⟨hc,by simpa [hg] using hI,wkA⟩
 ·
  rw [List.drop_eq_nil_of_le (by omega),qco] at hI;simp -dsimp [go_sem,hN,← hI]
theorem c_Contains_S (l:List qac) (k:qac):APure Tryz.prog 176 [.slice (l.map qa1),S k] (Bo (hasK l k)):=by
 refine qap Tryz.func176 Tryz.ntmps176 rfl (by kernel_rfl) rfl rfl fun E h hN hh hu hb=>?_;simp -dsimp [go_sem,hN];refine qaa (c_Index_S l k) ?_;simp -dsimp [go_sem,hN,idxOf_nonneg];simp [hasK,eq_comm]
end Go.Proofs.YtilhejdbiionhaaGreatDoor

set_option maxRecDepth 4000
namespace Go.Proofs.YtilhejdbiionhaaGreatDoor
open Go Go.Abs Go.Cw
theorem c_lexer_letter (c:Int):APure Tryz.prog 230 [.val (.int .i32 c)] (Bo (ltr c)):=by
 refine qap Tryz.func230 Tryz.ntmps230 rfl (by kernel_rfl) rfl rfl fun E h hN hh hu hb=>?_;simp -dsimp [go_sem,hN,ltr]
theorem c_lexer_word (s:qac):APure Tryz.prog 231 [S s] (I (wordLen (bl s))):=by
 refine qap Tryz.func231 Tryz.ntmps231 rfl (by kernel_rfl) rfl rfl fun E h hN hh hu hb=>?_;simp [go_sem] at hb;simp -dsimp [go_sem,hN];refine qao s.size (fun n=>n+wordLen ((bl s).drop n)=wordLen (bl s)) (fun n=>⟨[(0,S s),(6,P0 h.length)],h++[.iter s n]⟩) (by simp) wkA ?_;intro n hn hI;have hw:=qa3 hn hb;simp -dsimp [go_sem,hN];by_cases hc:n<s.size
 ·
  rw [bdrop hc,wordLen] at hI;simp -dsimp [go_sem,hN,hc];refine qaa (c_lexer_letter _) ?_;simp -dsimp [go_sem,hN];by_cases h8:(bAt s n).toNat<128
  ·
   simp only [dec_lo hc h8];refine ⟨by grind,cnd (fun hg=>?_) (fun hg=>?_)⟩
   ·
    have hg':wordI ((bAt s n).toNat:Int)=false:=by simp [wordI] at hg ⊢;grind
    simp -dsimp [go_sem,hN];rw [← hI];simp [hg']
   ·
    have hg':wordI ((bAt s n).toNat:Int)=true:=by simp [wordI] at hg ⊢;grind
    simp -dsimp [go_sem,hN,hw];exact ⟨hc,by rw [if_pos hg'] at hI;omega,wkA⟩
  ·
   have h9:=dec_hi hc h8;have hg':wordI ((bAt s n).toNat:Int)=false:=by simp [wordI,ltr];omega
   have hl:ltr ((Utf8.decode s n).1:Int)=false:=by simp [ltr];omega
   refine ⟨by grind,cnd (fun hg=>?_) (fun hg=>?_)⟩
   ·
    simp -dsimp [go_sem,hN];rw [← hI];simp [hg']
   ·
    simp [hl] at hg;omega
 ·
  rw [bend hc,wordLen] at hI;simp -dsimp [go_sem,hN,hc];have:wordLen (bl s)=s.size:=by omega
  simp [this]
theorem c_lexer_IsKeyword (s:qac):APure Tryz.prog 232 [S s] (Bo (kw s)):=by
 refine qap Tryz.func232 Tryz.ntmps232 rfl (by kernel_rfl) rfl rfl fun E h hN hh hu hb=>?_;simp -dsimp [go_sem,hN]
 iterate 25
  refine cnd (fun hg=>?_) (fun hg=>?_)
  ·
   simp at hg;subst hg;simp -dsimp [go_sem,hN];rfl
  simp -dsimp [go_sem,hN]
  try simp at hg
 simp [kw, *]
theorem c_ast_plain (s:qac):APure Tryz.prog 298 [S s] (Bo (qb1 s)):=by
 refine qap Tryz.func298 Tryz.ntmps298 rfl (by kernel_rfl) rfl rfl fun E h hN hh hu hb=>?_;simp [go_sem] at hb;simp -dsimp [go_sem,hN];refine qao s.size (fun n=>allL okB ((bl s).drop n)=allL okB (bl s)) (fun n=>⟨[(0,S s),(3,I n)],h⟩) (by simp) wkA ?_;intro n hn hI;have hw:=qa3 hn hb;simp -dsimp [go_sem,hN];refine cnd ?_ ?_<;>intro hc<;>simp at hc
 ·
  rw [bdrop hc,allL] at hI;simp -dsimp [go_sem,hN,hc];refine cnd (fun hg=>?_) (fun hg=>?_)
  ·
   simp -dsimp [go_sem,hN];simp [qb1,← hI,okB,hg]
  ·
   simp -dsimp [go_sem,hN,hw];exact ⟨hc,by simpa [okB,hg] using hI,wkA⟩
 ·
  rw [bend (by omega),allL] at hI;simp -dsimp [go_sem,hN,qb1,← hI]
theorem c_ast_Arity (op:Int):APure Tryz.prog 297 [I op] (I (qb6 op)):=by
 refine qap Tryz.func297 Tryz.ntmps297 rfl (by kernel_rfl) rfl rfl fun E h hN hh hu hb=>?_;simp -dsimp [go_sem,hN];refine cnd ?_ ?_<;>intro h0<;>simp at h0<;>simp -dsimp [go_sem,hN,qb6,h0];refine cnd ?_ ?_<;>intro h1<;>simp at h1<;>simp -dsimp [go_sem,hN,qb6,h0,h1];refine cnd ?_ ?_<;>intro h2<;>simp at h2<;>simp -dsimp [go_sem,hN,qb6]
 · rw [if_neg (by omega),if_neg (by omega),if_pos (by omega)]
 · rw [if_neg (by omega),if_neg (by omega),if_neg (by omega)]
theorem c_lexer_IsName (s:qac):APure Tryz.prog 191 [S s] (Bo (nameOk s)):=by
 refine qap Tryz.func191 Tryz.ntmps191 rfl (by kernel_rfl) rfl rfl fun E h hN hh hu hb=>?_;rcases sz_em s with rfl | h1
 ·
  simp -dsimp [go_sem,hN,nameOk];refine tgcall_if .top (by simp) (by simp) ?_;simp -dsimp [go_sem,hN];refine tgcall_if .top (by simp) (by simp) ?_;simp -dsimp [go_sem,hN];refine tgcall_if .top (by simp) (by simp) ?_;simp -dsimp [go_sem,hN,nameOk]
 ·
  have h1':0<s.size:=by omega
  have he:¬ s=em:=by rintro rfl;simp at h1
  simp -dsimp [go_sem,hN,h1',he];refine qaf (c_lexer_letter _) (by simp) ?_;simp -dsimp [go_sem,hN];refine qaf (c_lexer_word s) (by simp) ?_;simp -dsimp [go_sem,hN];refine qaf (c_lexer_IsKeyword s) (by simp) ?_;simp -dsimp [go_sem,hN,nameOk,he]
theorem c_ast_node (op n:Int) (s:qac) (args:List Ex) (d:Nat):APure Tryz.prog 279 [.agg [I op,I n,S s,.slice (args.map Ex.c)],I d] (I (qcj op n s args.length d)):=by
 refine qap Tryz.func279 Tryz.ntmps279 rfl (by kernel_rfl) rfl rfl fun E h hN hh hu hb=>?_;simp -dsimp [go_sem,hN];refine qaa (c_ast_Arity _) ?_;simp -dsimp [go_sem,hN]
 repeat refine ⟨by grind,?_⟩
 refine cnd (fun h0=>?_) (fun h0=>?_)
 ·
  simp -dsimp [go_sem,hN];simp at h0;rw [qcj,if_pos (by grind)]
 have h0':¬ (qb6 op<0∨(op≠1∧n≠0)∨(op≠2∧op≠3∧s≠em)):=by simp at h0;grind
 simp -dsimp [go_sem,hN];refine qaf (c_lexer_IsName s) (by simp) ?_;simp -dsimp [go_sem,hN];refine cnd (fun h1=>?_) (fun h1=>?_)
 ·
  simp -dsimp [go_sem,hN];simp at h1;rw [qcj,if_neg h0',if_pos (by grind)]
 have h1':¬ (op=3∧nameOk s=false):=by simp at h1;grind
 simp -dsimp [go_sem,hN]
 repeat refine ⟨by grind,?_⟩
 refine qaf (c_ast_plain s) (by simp) ?_;simp -dsimp [go_sem,hN]
 repeat refine ⟨by grind,?_⟩
 refine cnd (fun h2=>?_) (fun h2=>?_)
 ·
  simp -dsimp [go_sem,hN];simp at h2;rw [qcj,if_neg h0',if_neg h1',if_pos (by grind)]
 have h2':¬ ((op=1∧n<0)∨(op=2∧qb1 s=false)∨(args.length:Int)≠qb6 op):=by simp at h2;grind
 simp -dsimp [go_sem,hN];refine cnd ?_ ?_<;>intro h3<;>simp at h3
 ·
  simp -dsimp [go_sem,hN];rw [qcj,if_neg h0',if_neg h1',if_neg h2',if_pos (by omega)]
 ·
  simp -dsimp [go_sem,hN];rw [qcj,if_neg h0',if_neg h1',if_neg h2',if_neg (by omega)]
theorem c_ast_check (e:Ex) (d:Nat):APure Tryz.prog 269 [.agg [I e.op,I e.n,S e.s,.slice (e.args.map Ex.c)],I d] (I (chkE e d)):=by
 refine qap Tryz.func269 Tryz.ntmps269 rfl (by kernel_rfl) rfl rfl fun E h hN hh hu hb=>?_;simp [go_sem] at hb;simp -dsimp [go_sem,hN];refine qaa (c_ast_node _ _ _ _ _) ?_;simp -dsimp [go_sem,hN];refine cnd ?_ ?_<;>intro h0<;>simp at h0
 ·
  simp -dsimp [go_sem,hN];rw [chkE_eq,if_neg h0]
 have hd:d≤12:=by
  unfold qcj at h0;grind
 simp -dsimp [go_sem,hN];refine qao e.args.length (fun n=>chkL (e.args.drop n) (d+1)=chkL e.args (d+1)) (fun n=>⟨[(1,I d),(16,.slice (e.args.map Ex.c)),(17,I e.args.length),(18,I n)],h⟩) (by simp) wkA ?_;intro n hn hI;have hw:=qa3 hn hb.2.1;have hw2:IntKind.i64.wrap ((d:Int)+1)=((d+1:Nat):Int):=by rw [wrapI (by omega) (by omega)];rfl
 simp -dsimp [go_sem,hN];refine cnd ?_ ?_<;>intro hc<;>simp at hc
 ·
  rw [qae hc,chkL] at hI;simp -dsimp [go_sem,hN,hc,hw2];have hlt:SizeOf.sizeOf e.args[n]<SizeOf.sizeOf e:=Ex.arg_lt (List.getElem_mem hc);refine qaa (c_ast_check e.args[n] (d+1)) ?_;simp -dsimp [go_sem,hN];refine cnd ?_ ?_<;>intro hg<;>simp at hg
  ·
   simp -dsimp [go_sem,hN];rw [chkE_eq e,if_pos h0,← hI,if_neg hg]
  ·
   simp -dsimp [go_sem,hN,hw];exact ⟨hc,by simpa [hg] using hI,wkA⟩
 ·
  rw [List.drop_eq_nil_of_le (by omega),chkL] at hI;simp -dsimp [go_sem,hN];rw [chkE_eq e,if_pos h0,← hI]
termination_by SizeOf.sizeOf e
theorem qd9 (e:Ex):APure Tryz.prog 237 [.agg [I e.op,I e.n,S e.s,.slice (e.args.map Ex.c)]] (I (chkE e 1)):=by
 refine qap Tryz.func237 Tryz.ntmps237 rfl (by kernel_rfl) rfl rfl fun E h hN hh hu hb=>?_;simp -dsimp [go_sem,hN];refine qaa (c_ast_check e 1) ?_;simp -dsimp [go_sem,hN]
end Go.Proofs.YtilhejdbiionhaaGreatDoor

set_option maxRecDepth 4000
namespace Go.Proofs.YtilhejdbiionhaaGreatDoor
open Go Go.Abs Go.Cw
theorem c_ast_usesOf (op:Int):APure Tryz.prog 235 [I op] (.tuple [.agg (qa4 op).1.c,Bo (qa4 op).2]):=by
 refine qap Tryz.func235 Tryz.ntmps235 rfl (by kernel_rfl) rfl rfl fun E h hN hh hu hb=>?_;by_cases h1:op=1
 · subst h1;simp -dsimp [go_sem,hN,qa4]
 by_cases h2:op=2
 · subst h2;simp -dsimp [go_sem,hN,qa4]
 by_cases h3:op=3
 · subst h3;simp -dsimp [go_sem,hN,qa4]
 by_cases h4:op=4
 · subst h4;simp -dsimp [go_sem,hN,qa4]
 by_cases h7:op=7
 · subst h7;simp -dsimp [go_sem,hN,qa4]
 by_cases h5:op=5
 · subst h5;simp -dsimp [go_sem,hN,qa4]
 by_cases h6:op=6
 · subst h6;simp -dsimp [go_sem,hN,qa4]
 by_cases h8:op=8
 · subst h8;simp -dsimp [go_sem,hN,qa4]
 simp -dsimp [go_sem,hN,qa4,h1,h2,h3,h4,h5,h6,h7,h8]
theorem c_ast_absent (e:Ex):APure Tryz.prog 268 [.agg e.x] (Bo (absE e)):=by
 refine qap Tryz.func268 Tryz.ntmps268 rfl (by kernel_rfl) rfl rfl fun E h hN hh hu hb=>?_;simp -dsimp [go_sem,hN,absE]
 try grind
theorem c_ast_shape (s:St) (u:Uses):APure Tryz.prog 236 [.agg s.x,.agg u.c] (Bo (qb4 s u)):=by
 refine qap Tryz.func236 Tryz.ntmps236 rfl (by kernel_rfl) rfl rfl fun E h hN hh hu hb=>?_;simp -dsimp [go_sem,hN]
 repeat refine ⟨by grind,?_⟩
 refine qaf (c_ast_absent s.a) (by simp) ?_;simp -dsimp [go_sem,hN]
 repeat refine ⟨by grind,?_⟩
 refine qaf (c_ast_absent s.b) (by simp) ?_;simp -dsimp [go_sem,hN]
 repeat refine ⟨by grind,?_⟩
 refine cnd (fun h0=>?_) (fun h0=>?_)
 ·
  simp -dsimp [go_sem,hN];simp [qb4] at h0 ⊢;grind
 ·
  simp -dsimp [go_sem,hN];refine cnd ?_ ?_<;>intro h1<;>simp at h1<;>simp -dsimp [go_sem,hN,h1]
  ·
   simp [qb4,h1] at h0 ⊢;grind
  ·
   refine cnd ?_ ?_<;>intro h2<;>simp at h2<;>simp -dsimp [go_sem,hN,h2]
   ·
    simp [qb4,h1,h2] at h0 ⊢;grind
   ·
    simp [qb4,h1,h2] at h0 ⊢;grind
end Go.Proofs.YtilhejdbiionhaaGreatDoor
