/- Part 32 of a proof: R1, W1, W2, W3 -/
import Derived.Test.YtilhejdbiionhaaGreatDoorR13
import Derived.Test.YtilhejdbiionhaaGreatDoorR21
import Derived.Test.YtilhejdbiionhaaGreatDoorR31
set_option linter.all false

namespace Go.Proofs.YtilhejdbiionhaaGreatDoor
open Go Go.Abs Go.Cw
@[simp] theorem any20:anyT Tryz.prog 20=true:=by kernel_rfl
theorem c_run1_ret{c:Ctx}{h:qab}{w:World}(hs:HSim c h w){i4 i5:Nat}{vs:Array Value}(ha:RelL c [.ptr i4 0,.ptr i5 0] vs) :
  CallsD Tryz.prog 72 vs .returning w fun e u' w'=>(∃v,e=.returned v)∧u'=.returning∧∃c',HSim c' h w'∧(⟨12,c,h,w⟩:Ent).ok c' h w':=by
 refine callsD_of_wpS Tryz.func72 rfl fun c₀ cs hu=>?_;have s0:=sim_enter (N:=12) hs ha (by simp);refine wpS_seq (wpS_region ?_);simp[wpOpsS,go_sem,recoverD,hu,Exit.thenS,Tryz.ntmps72];obtain⟨q1,q2,q3,q4,q5,q6,q7⟩:=c₀;simp only at hu;subst hu;have s1:=s0.put (.refl c) hs (d:=some 5) (by simp) (Rel.val Value.nilIface);refine wpS_fn (E:=⟨12,c,h,w⟩) (c₀:=⟨q1,q2,q3,q4,.returning,q6,q7⟩) (U:=.returning) (cs:=cs) (fn:=Tryz.f72) s1 (Ent.ok.refl 12 hs) (H:=h) (n0:=h.length) (Nat.le_refl _) ?_;refine qay _ _ _ ?_;have hN:(⟨12,c,h,w⟩:Ent).N=12:=rfl;have hu':=hs.hUnder;simp-dsimp[go_sem,hN,Tryz.f72,hu'];exact⟨.tuple [],.refl _,h,rfl,hwk.refl _,Nat.le_refl _,hu',rfl,rfl⟩
@[simp] theorem za74:zeroAV Tryz.prog 87=some (.agg [I 0,I 0,.nils,S em]):=by kernel_rfl
theorem c_run1_pan{c:Ctx}{h:qab}{w:World}(hs:HSim c h w){i4 i5:Nat}{vs:Array Value}(ha:RelL c [.ptr i4 0,.ptr i5 0] vs){st:List AV}(hst:st.length=4)(x4:List AV)(h4:h[i4]?=some (.cells x4))(hx4:x4.length=4)(x5:AV)(h5:h[i5]?=some (.cells [x5]))(h45:i4≠i5)(hds:st.all AV.one=true)
  {v:Value} (hv:Rel c (.iface 87 (.agg st)) v) :
  CallsD Tryz.prog 72 vs (.panicking [⟨v,false,false⟩]) w fun e u' w'=>(∃v,e=.returned v)∧u'=.panicking [⟨v,true,false⟩]∧∃c',HSim c' ((h.set i4 (.cells st)).set i5 (.cells [Bo true])) w'∧(⟨12,c,h,w⟩:Ent).ok c' ((h.set i4 (.cells st)).set i5 (.cells [Bo true])) w':=by
 refine callsD_of_wpS Tryz.func72 rfl fun c₀ cs hu=>?_;have s0:=sim_enter (N:=12) hs ha (by simp);refine wpS_seq (wpS_region ?_);simp[wpOpsS,go_sem,recoverD,hu,Exit.thenS,Tryz.ntmps72];have s1:=s0.put (.refl c) hs (d:=some 5) (by simp) hv;refine wpS_fn (E:=⟨12,c,h,w⟩) (c₀:=c₀) (U:=.panicking [⟨v,true,false⟩]) (cs:=cs) (fn:=Tryz.f72) s1 (Ent.ok.refl 12 hs) (H:=(h.set i4 (.cells st)).set i5 (.cells [Bo true])) (n0:=h.length) (Nat.le_refl _) ?_;refine qay _ _ _ ?_;have hN:(⟨12,c,h,w⟩:Ent).N=12:=rfl;have hu':=hs.hUnder;have l4:i4<h.length:=(List.getElem?_eq_some_iff.1 h4).1;have l5:i5<h.length:=(List.getElem?_eq_some_iff.1 h5).1;obtain⟨a,b,d,e,rfl⟩:∃a b d e,st=[a,b,d,e]:=by
  match st,hst with
  | [a,b,d,e],_=>exact⟨a,b,d,e,rfl⟩
 have hun:qao h.length [a,b,d,e]=true:=by
  have:=hv.under hs.dom;simpa[AV.under]using this
 have a4:(h++[AObj.cells [a,b,d,e]])[i4]?=some (.cells x4):=by rw[List.getElem?_append_left l4];exact h4
 have a5:((h++[AObj.cells [a,b,d,e]]).set i4 (AObj.cells [a,b,d,e]))[i5]?=some (.cells [x5]):=by rw[List.getElem?_set_ne h45,List.getElem?_append_left l5];exact h5
 simp-dsimp[go_sem,hN,Tryz.f72,hu',a4,a5,hx4];rw[show x4.drop 4=[]from List.drop_eq_nil_of_le (by omega),a5];refine⟨by simp,.tuple [],.refl _,_,rfl,?_,?_,?_,rfl,rfl⟩
 ·rw[List.set_append_left _ _ l4,List.set_append_left _ _ (by simpa using l5)];exact hwk.app0 _
 ·simp
 ·simp only[List.length_set];exact qcg (qcg hu' hun) (by simp[AObj.under,qao,AV.under])
def zs:List AV:=[I 0,I 0,.slice [],S em]
theorem c_interp_run(m:AV){g:FuncId}{first caps:List AV}{h:qab}{Rg R:AEnd→qab→Prop}(hg:ACalls Tryz.prog g (qbi (h++[.cells [I 0,I 0,.nils,S em],.cells [Bo false]]) (first++caps)) (h++[.cells [I 0,I 0,.nils,S em],.cells [Bo false]]) Rg)
  (hR:∀r h',Rg r h'→h.length+2≤h'.length→(∃x4,h'[h.length]?=some (.cells x4)∧x4.length=4)∧(∃x5,h'[h.length+1]?=some (.cells [x5]))∧hUnder h.length (h'.take h.length)=true∧match r with
   | .ret _=>R (.ret (.tuple [.agg zs,Bo false])) (h'.take h.length)
   | .panic (.iface 87 (.agg st))=>st.length=4∧st.all AV.one=true∧qao h.length st=true∧R (.ret (.tuple [.agg st,Bo true])) (h'.take h.length)
   |_=>False) (hst':∀h' st,Rg (.panic (.iface 87 (.agg st))) h'→∀H,qbi H st=st):ACalls Tryz.prog 43 [m,.fn (.func g) first caps] h R:=by
 refine⟨⟨_,Tryz.func43,by kernel_rfl,by kernel_rfl⟩,fun c w vs hs ha=>?_⟩;refine calls_of_wp_defers Tryz.func43 rfl ?_;have s0:=sim_enter (N:=10) hs ha (by simp);have k0:=Ent.ok.refl 10 hs;rw[Tryz.ntmps43];refine wp_seq (wp_mono ((awp_opsG (E:=⟨10,c,h,w⟩) (Q:=fun x e=>x=.normal∧e=⟨[(5,.ptr (h.length+1) 0),(4,.ptr h.length 0),(0,m),(1,.fn (.func g) first caps)],h++[.cells [I 0,I 0,.nils,S em],.cells [Bo false]]⟩) ?_) c _ w s0 k0) ?_)
 ·have hN:(⟨10,c,h,w⟩:Ent).N=10:=rfl;simp-dsimp[go_sem,hN]
 rintro ex a1 w1 ⟨x',e1,c1,⟨rfl,rfl⟩,hx,s1,k1⟩;cases ex<;>simp only[XR]at hx;show Code.wp _ _ _ a1 w1;have t4:=s1.tmps 4;have t5:=s1.tmps 5;have t1:=s1.tmps 1;simp[qbb]at t4 t5 t1;refine wp_seq (wp_region_list ?_);have sz:a1.tmps.size=10:=s1.size;have df:a1.defers=[]:=s1.defers;obtain⟨tm,dfs⟩:=a1;simp only at sz df;subst df;simp[wpList,go_sem,Oper.wp,Oper.upon,Instr.makeFunc,sz];refine .inl (.inl ?_);have s3:=s1.put (.refl c1) s1.hs (d:=some 6) (by simp) (Rel.top (Value.func (Fn.func 72) #[] #[tm[4],tm[5]]));have E3:({ tmps:=tm.setIfInBounds 6 (Value.func (Fn.func 72) #[] #[tm[4],tm[5]]),defers:=[{ target:=Target.fn (Fn.func 72) #[tm[4],tm[5]],args:=#[] }] }:Act)=ddf [{ target:=Target.fn (Fn.func 72) #[tm[4],tm[5]],args:=#[] }] (({ tmps:=tm,defers:=[] }:Act).put (some 6) (Value.func (Fn.func 72) #[] #[tm[4],tm[5]])):=rfl;rw[E3];have hd4:∀c',c1.le c'→RelL c' [.ptr h.length 0,.ptr (h.length+1) 0] #[tm[4],tm[5]]:=fun c' hle=>⟨rfl,fun j x v hx hv=>by
  match j with
  | 0=>simp at hx hv;subst hx;subst hv;simpa[sz]using t4.mono hle
  | 1=>simp at hx hv;subst hx;subst hv;simpa[sz]using t5.mono hle
  |j+2=>simp at hx⟩
 -- what stands behind the deferred call
 have fin:∀(c5:Ctx) (e5:Env) (a5:Act) (w5:World) (hf:qab) (st:List AV) (b:Bool),Sim 10 c5 e5 a5 w5→(⟨10,c,h,w⟩:Ent).ok c5 e5.h w5→qbb e5.t 4=.ptr h.length 0→qbb e5.t 5=.ptr (h.length+1) 0 →
   e5.h[h.length]?=some (.cells st)→st.length=4→qao h.length (qbi e5.h st)=true→e5.h[h.length+1]?=some (.cells [Bo b])→hwk e5.h hf→hf.length=h.length→hUnder h.length hf=true→R (.ret (.tuple [.agg (qbi e5.h st),Bo b])) hf →
   ∃v,(results Tryz.f43 a5.tmps).run Tryz.prog w5=.ok v w5∧∃r h',R r h'∧∃x,EndR x r (.returned v)∧HSim x h' w5∧(⟨0,c,h,w⟩:Ent).ok x h' w5:=by
  intro c5 e5 a5 w5 hf st b s5 k5 l4 l5 g4 hst hun g5 hw hl hu hRR;obtain⟨v,hv,hr⟩:=results_ok (E:=⟨10,c,h,w⟩) (P:=Tryz.prog) s5 Tryz.f43 (by
   simp[Tryz.f43,go_sem,l4,l5,g4,g5,hst])
  have hval:(mkRes ((Tryz.f43).results.toList.map fun r=>(resSV Tryz.prog e5 r).val))=.tuple [.agg st,Bo b]:=by
   have ht:st.take 4=st:=List.take_of_length_le (by omega);simp[Tryz.f43,go_sem,l4,l5,g4,g5,ht]
  rw[hval]at hr;obtain⟨c6,q1,q2,q3⟩:=finish (E:=⟨10,c,h,w⟩) s5 k5 hr (r':=.tuple [.agg (qbi e5.h st),Bo b]) (h':=hf) (by simp[AV.norm,qbi]) (by simp[AV.under,qao,hl];exact hun) hw (by simp[hl]) (by rw[hl];exact hu);exact⟨v,hv,_,hf,hRR,c6,q3,q1,q2.withN 0⟩
 have k3:(⟨10,c1,h++[.cells [I 0,I 0,.nils,S em],.cells [Bo false]],w1⟩:Ent).ok c1 (h++[.cells [I 0,I 0,.nils,S em],.cells [Bo false]]) w1:=Ent.ok.refl 10 s1.hs;refine wp_seq (wp_region_list (wpList_ddf (Q:=conc ⟨10,c1,h++[.cells [I 0,I 0,.nils,S em],.cells [Bo false]],w1⟩ fun x e=>match x with
  | .normal=>(∃v,Rg (.ret v) e.h)∧qbb e.t 4=.ptr h.length 0∧qbb e.t 5=.ptr (h.length+1) 0
  | .panic v=>Rg (.panic v) e.h∧qbb e.t 4=.ptr h.length 0∧qbb e.t 5=.ptr (h.length+1) 0
  |_=>False) ?_ ((qcf (E:=⟨10,c1,h++[.cells [I 0,I 0,.nils,S em],.cells [Bo false]],w1⟩) _ [] _ rfl ?_) c1 _ w1 s3 k3)))
 ·rintro x a w2 ⟨x',e2,c2,hq,hx,s2,k2⟩;have hle:c1.le c2:=k2.ext;have hlen:h.length+2≤e2.h.length:=by simpa using k2.len
  cases x' with
  |normal =>
   cases x<;>simp only[XR]at hx;obtain⟨⟨v,hv⟩,l4,l5⟩:=hq;obtain⟨⟨x4,g4,lx4⟩,⟨x5,g5⟩,hu2,hRR⟩:=hR _ _ hv hlen;show Code.wp _ _ _ _ _;have n4:h.length<e2.h.length:=by omega
   have n5:h.length+1<e2.h.length:=by omega
   refine wp_seq (wp_region_list (wpList_ddf (Q:=conc ⟨10,c2,e2.h,w2⟩ fun x e=>x=.normal∧e.h=(e2.h.set h.length (.cells [I 0,I 0,.nils,S em])).set (h.length+1) (.cells [Bo false])∧qbb e.t 4=.ptr h.length 0∧qbb e.t 5=.ptr (h.length+1) 0) ?_ ((qcf (E:=⟨10,c2,e2.h,w2⟩) _ [] _ rfl ?_) c2 _ w2 s2 (Ent.ok.refl 10 s2.hs))))
   ·rintro x a w3 ⟨x',e3,c3,⟨rfl,h3,l4',l5'⟩,hx,s3',k3'⟩;cases x<;>simp only[XR]at hx;show Code.wp _ _ _ _ _;refine wp_ret ?_;have hle3:c1.le c3:=hle.trans k3'.ext;show Leaves _ _ _ _ (a.defers++_) _ _;rw[s3'.defers,List.nil_append];refine leaves_cons (f:=72) (args:=#[tm[4],tm[5]]) (by simp) (by simp[invoke]) ((c_run1_ret s3'.hs (hd4 c3 hle3)).mono ?_);rintro en u' w4 ⟨⟨v4,rfl⟩,rfl,c4,s4,k4⟩;have sim4:Sim 10 c4 e3 a w4:=⟨s3'.defers,s3'.size,fun i=>(s3'.tmps i).mono k4.ext,s4⟩
    have e3a:e3.h[h.length]?=some (.cells [I 0,I 0,.nils,S em]):=by rw[h3];simp[n4]
    have e3b:e3.h[h.length+1]?=some (.cells [Bo false]):=by rw[h3];simp[n5]
    have kk:(⟨10,c,h,w⟩:Ent).ok c4 e3.h w4:=((k1.trans k2).trans k3').trans k4;obtain⟨v5,h5,h6⟩:=fin c4 e3 a w4 (e2.h.take h.length) [I 0,I 0,.nils,S em] false sim4 kk l4' l5' e3a rfl (by simp[qbi,AV.norm,qao,AV.under]) e3b (by
     rw[h3];exact hwk_take2 (by omega)) (by simp;omega) hu2 (by simpa[qbi,AV.norm,zs]using hRR)
    exact⟨v5,h5,h6⟩
   ·have hN:(⟨10,c2,e2.h,w2⟩:Ent).N=10:=rfl;have g5':(e2.h.set h.length (AObj.cells [I 0,I 0,.nils,S em]))[h.length+1]?=some (.cells [x5]):=by rw[List.getElem?_set_ne (by omega)];exact g5
    simp-dsimp[go_sem,hN,l4,l5,g4,g5,lx4]
    try rw[show x4.drop 4=[]from List.drop_eq_nil_of_le (by omega)]
    try simp-dsimp[go_sem,g5',l4,l5]
  |panic v =>
   obtain⟨hv,l4,l5⟩:=hq;obtain⟨⟨x4,g4,lx4⟩,⟨x5,g5⟩,hu2,hRR⟩:=hR _ _ hv hlen;split at hRR
   ·rename_i he;cases he
   ·rename_i st he;cases he;obtain⟨hst,hone,hun,hRR⟩:=hRR;cases x with
    |panic ch =>
     cases ch with
     |nil=>simp[XR]at hx
     |cons p l =>
      cases l with
      |cons=>simp[XR]at hx
      |nil =>
       obtain⟨u,rc,gx⟩:=p;cases rc<;>cases gx<;>simp only[XR]at hx;show Leaves _ _ _ _ (a.defers++_) _ _;rw[s2.defers,List.nil_append];refine leaves_cons (f:=72) (args:=#[tm[4],tm[5]]) (by simp) (by simp[invoke]) ((c_run1_pan s2.hs (hd4 c2 hle) hst x4 g4 lx4 x5 g5 (by omega) hone hx).mono ?_);rintro en u' w4 ⟨⟨v4,rfl⟩,rfl,c4,s4,k4⟩;have n4:h.length<e2.h.length:=by omega
       have n5:h.length+1<e2.h.length:=by omega
       have sim4:Sim 10 c4 ⟨e2.t,(e2.h.set h.length (.cells st)).set (h.length+1) (.cells [Bo true])⟩ a w4:=⟨s2.defers,s2.size,fun i=>(s2.tmps i).mono k4.ext,s4⟩
       have kk:(⟨10,c,h,w⟩:Ent).ok c4 ((e2.h.set h.length (.cells st)).set (h.length+1) (.cells [Bo true])) w4:=(k1.trans k2).trans k4;have hnorm:qbi ((e2.h.set h.length (.cells st)).set (h.length+1) (.cells [Bo true])) st=st:=hst' _ _ hv _;obtain⟨v5,h5,h6⟩:=fin c4 ⟨e2.t,(e2.h.set h.length (.cells st)).set (h.length+1) (.cells [Bo true])⟩ a w4 (e2.h.take h.length) st true sim4 kk l4 l5 (by simp[n4]) hst (by rw[hnorm];exact hun) (by simp[n5]) (hwk_take2 (by omega)) (by simp;omega) hu2 (by rw[hnorm];exact hRR);exact⟨v5,h5,h6⟩
    |_=>simp[XR]at hx
   ·exact hRR.elim
  |_=>exact hq.elim
 ·have hN:(⟨10,c1,h++[.cells [I 0,I 0,.nils,S em],.cells [Bo false]],w1⟩:Ent).N=10:=rfl;simp-dsimp[go_sem,hN];refine qaj hg fun r h' hr=>?_;cases r<;>simp[go_sem,hr];exact⟨_,hr⟩
end Go.Proofs.YtilhejdbiionhaaGreatDoor

namespace Go.Proofs.YtilhejdbiionhaaGreatDoor
open Go Go.Abs Go.Cw
theorem mixed:Tryz.prog.follows .mixedOrders=true:=by kernel_rfl
theorem c_value_plain(s:qac):APure Tryz.prog 150 [S s] (Bo (qa3 s)):=by
 refine qak Tryz.func150 Tryz.ntmps150 rfl (by kernel_rfl) rfl rfl fun E h hN hh hu hb=>?_;simp[go_sem]at hb;simp-dsimp[go_sem,hN];refine qam s.size (fun n=>allL okB ((bl s).drop n)=allL okB (bl s)) (fun n=>⟨[(0,S s),(3,I n)],h⟩) (by simp) wkA ?_;intro n hn hI;have hw:=qa2 hn hb;simp-dsimp[go_sem,hN];refine cnd ?_ ?_<;>intro hc<;>try simp at hc
 ·rw[bdrop hc,allL]at hI;simp-dsimp[go_sem,hN,hc];refine cnd (fun hg=>?_) (fun hg=>?_)
  ·simp-dsimp[go_sem,hN];simp[qa3,←hI,okB,hg]
  ·simp-dsimp[go_sem,hN,hw];exact⟨hc,by simpa[okB,hg]using hI,wkA⟩
 ·rw[bend (by omega),allL]at hI;simp-dsimp[go_sem,hN,qa3,←hI]
theorem c_value_Valid(k n:Int)(s:qac):APure Tryz.prog 95 [.agg [I k,I n,S s]] (Bo (valOk k n s)):=by
 refine qak Tryz.func95 Tryz.ntmps95 rfl (by kernel_rfl) rfl rfl fun E h hN hh hu hb=>?_;simp-dsimp[go_sem,hN];refine cnd ?_ ?_<;>intro h0<;>try simp at h0
 all_goals simp-dsimp[go_sem,hN,valOk,h0]
 refine cnd ?_ ?_<;>intro h1<;>try simp at h1
 all_goals simp-dsimp[go_sem,hN,valOk,h0,h1]
 refine cnd ?_ ?_<;>intro h2<;>try simp at h2
 all_goals simp-dsimp[go_sem,hN,valOk,h0,h1,h2]
 refine qae (c_value_plain s) (by simp) ?_;simp-dsimp[go_sem,hN,valOk,h0,h1,h2]
theorem c_interp_variable(k n:Int)(s:qac):APure Tryz.prog 249 [.agg [I k,I n,S s]] (Bo (varOk k n s)):=by
 refine qak Tryz.func249 Tryz.ntmps249 rfl (by kernel_rfl) rfl rfl fun E h hN hh hu hb=>?_;simp-dsimp[go_sem,hN];refine cnd ?_ ?_<;>intro h0<;>try simp at h0
 all_goals simp-dsimp[go_sem,hN,varOk,h0]
 refine qae (c_value_Valid k n s) (by simp) ?_;simp-dsimp[go_sem,hN,varOk,h0]
theorem c_keys_Valid1(b:UInt8):APure Tryz.prog 124 [U8 b.toNat] (Bo (keyB b)):=by
 refine qak Tryz.func124 Tryz.ntmps124 rfl (by kernel_rfl) rfl rfl fun E h hN hh hu hb=>?_;simp-dsimp[go_sem,hN,keyB];omega
theorem c_keys_consists(s:qac)(f:FuncId)(p:UInt8→Bool)(hp:∀b:UInt8,APure Tryz.prog f [U8 b.toNat] (Bo (p b))):APure Tryz.prog 123 [S s,.fn (.func f) [] []] (Bo (decide ((s.size:Int)≤24)&&allL p (bl s))):=by
 refine qak Tryz.func123 Tryz.ntmps123 rfl (by kernel_rfl) rfl rfl fun E h hN hh hu hb=>?_;simp[go_sem]at hb;simp-dsimp[go_sem,hN];refine cnd ?_ ?_<;>intro h0<;>try simp at h0
 all_goals simp-dsimp[go_sem,hN,h0]
 ·simp[Int.not_le.2 h0]
 refine qam s.size (fun n=>allL p ((bl s).drop n)=allL p (bl s)) (fun n=>⟨[(0,S s),(1,.fn (.func f) [] []),(10,I s.size),(11,I n)],h⟩) (by simp) wkA ?_;intro n hn hI;have hw:=qa2 hn hb;simp-dsimp[go_sem,hN];refine cnd ?_ ?_<;>intro hc<;>try simp at hc
 ·rw[bdrop hc,allL]at hI;simp-dsimp[go_sem,hN,hc];refine qaa (hp _) ?_;simp-dsimp[go_sem,hN];refine cnd ?_ ?_<;>intro hg<;>try simp at hg
  ·simp-dsimp[go_sem,hN];simp[h0,←hI,hg]
  ·simp-dsimp[go_sem,hN,hw];exact⟨hc,by simpa[hg]using hI,wkA⟩
 ·rw[bend (by omega),allL]at hI;simp-dsimp[go_sem,hN,h0,←hI]
theorem c_keys_Valid(s:qac):APure Tryz.prog 77 [S s] (Bo (keyOk s)):=by
 refine qak Tryz.func77 Tryz.ntmps77 rfl (by kernel_rfl) rfl rfl fun E h hN hh hu hb=>?_;simp-dsimp[go_sem,hN];refine qae (c_keys_consists s _ keyB c_keys_Valid1) (by simp) ?_;simp-dsimp[go_sem,hN,keyOk,Bool.and_assoc]
theorem c_interp_ascending(l:List qac):APure Tryz.prog 71 [.slice (l.map qa1)] (Bo (ascK none l&&decide ((l.length:Int)≤64))):=by
 refine qak Tryz.func71 Tryz.ntmps71 rfl (by kernel_rfl) rfl rfl fun E h hN hh hu hb=>?_;simp[go_sem]at hb;simp-dsimp[go_sem,hN];refine qam l.length (fun n=>ascK (qcu l n) (l.drop n)=ascK none l) (fun n=>⟨[(0,.slice (l.map qa1)),(5,.slice (l.map qa1)),(6,I l.length),(7,I n)],h⟩) (by simp[qcu]) wkA ?_;intro n hn hI;have hw:=qa2 hn hb.1;simp-dsimp[go_sem,hN];refine cnd ?_ ?_<;>intro hc<;>try simp at hc
 ·rw[qaf hc,ascK]at hI;simp-dsimp[go_sem,hN,hc];refine qaa (c_keys_Valid _) ?_;cases n with
  |zero =>
   simp-dsimp[go_sem,hN];refine cnd ?_ ?_<;>intro hg<;>try simp at hg
   ·simp-dsimp[go_sem,hN];simp[←hI,hg,qcu,after]
   ·simp-dsimp[go_sem,hN,hw];exact⟨hc,by simpa[hg,qcu,hc,after]using hI,wkA⟩
  |succ m =>
   have hm:m<l.length:=by omega
   have hw2:=wrapN (Nat.le_of_lt hm) hb.1;simp at hw;simp-dsimp[go_sem,hN,hw2,hm];refine cnd ?_ ?_<;>intro hg<;>try simp at hg
   ·simp-dsimp[go_sem,hN];rw[←hI];rcases hg with h1|h1<;>simp[qcu,hm,after,h1]
   ·simp-dsimp[go_sem,hN,hw];simp[hg,qcu,hm,after]at hI;exact⟨hc,by simpa[qcu,hc]using hI,wkA⟩
 ·rw[List.drop_eq_nil_of_le (by omega),ascK]at hI;simp-dsimp[go_sem,hN,←hI]
theorem c_interp_valid(a:Bool)(r w:List qac):APure Tryz.prog 39 [.agg [Bo a,.slice (r.map qa1),.slice (w.map qa1)]] (Bo (footOk a r w)):=by
 refine qak Tryz.func39 Tryz.ntmps39 rfl (by kernel_rfl) rfl rfl fun E h hN hh hu hb=>?_;simp-dsimp[go_sem,hN];refine cnd ?_ ?_<;>intro h0<;>try simp at h0
 all_goals simp-dsimp[go_sem,hN,footOk,h0]
 refine qaa (c_interp_ascending r) ?_;simp-dsimp[go_sem,hN];refine qae (c_interp_ascending w) (by simp) ?_;simp-dsimp[go_sem,hN,footOk,h0]
theorem c_state_absent(p:Pr):APure Tryz.prog 64 [.agg p.c] (Bo (decide (p.v.k=0))):=by
 refine qak Tryz.func64 Tryz.ntmps64 rfl (by kernel_rfl) rfl rfl fun E h hN hh hu hb=>?_;simp-dsimp[go_sem,hN]
theorem c_IndexFunc_Pair(l:List Pr)(f:FuncId)(p:Pr→Bool)(hp:∀x:Pr,APure Tryz.prog f [.agg x.c] (Bo (p x))):APure Tryz.prog 96 [.slice (l.map Pr.c),.fn (.func f) [] []] (I (idxOf p l)):=by
 refine qak Tryz.func96 Tryz.ntmps96 rfl (by kernel_rfl) rfl rfl fun E h hN hh hu hb=>?_;simp[go_sem]at hb;simp-dsimp[go_sem,hN];refine qam l.length (fun n=>qed p n (l.drop n)=idxOf p l) (fun n=>⟨[(0,.slice (l.map Pr.c)),(1,.fn (.func f) [] []),(7,I l.length),(8,I n)],h⟩) (by simp[idxOf]) wkA ?_;intro n hn hI;have hw:=qa2 hn hb.1;simp-dsimp[go_sem,hN];refine cnd ?_ ?_<;>intro hc<;>try simp at hc
 ·rw[qaf hc,qed]at hI;simp-dsimp[go_sem,hN,hc];refine qaa (hp l[n]) ?_;simp-dsimp[go_sem,hN];refine cnd ?_ ?_<;>intro hg<;>try simp at hg
  ·simp-dsimp[go_sem,hN];simpa[hg]using hI
  ·simp-dsimp[go_sem,hN,hw];exact⟨hc,by simpa[hg]using hI,wkA⟩
 ·rw[List.drop_eq_nil_of_le (by omega),qed]at hI;simp-dsimp[go_sem,hN,←hI]
theorem c_ContainsFunc_Pair(l:List Pr)(f:FuncId)(p:Pr→Bool)(hp:∀x:Pr,APure Tryz.prog f [.agg x.c] (Bo (p x))):APure Tryz.prog 63 [.slice (l.map Pr.c),.fn (.func f) [] []] (Bo (anyL p l)):=by
 refine qak Tryz.func63 Tryz.ntmps63 rfl (by kernel_rfl) rfl rfl fun E h hN hh hu hb=>?_;simp-dsimp[go_sem,hN];refine qaa (c_IndexFunc_Pair l f p hp) ?_;simp-dsimp[go_sem,hN,idxOf_nonneg]
theorem c_state_sorted(l:List Pr):APure Tryz.prog 62 [.slice (l.map Pr.c)] (Bo (sortedP none l)):=by
 refine qak Tryz.func62 Tryz.ntmps62 rfl (by kernel_rfl) rfl rfl fun E h hN hh hu hb=>?_;simp[go_sem]at hb;simp-dsimp[go_sem,hN];refine qam l.length (fun n=>sortedP ((qcu l n).map Pr.key) (l.drop n)=sortedP none l) (fun n=>⟨[(0,.slice (l.map Pr.c)),(5,.slice (l.map Pr.c)),(6,I l.length),(7,I n)],h⟩) (by simp[qcu]) wkA ?_;intro n hn hI;have hw:=qa2 hn hb.1;simp-dsimp[go_sem,hN];refine cnd ?_ ?_<;>intro hc<;>try simp at hc
 ·rw[qaf hc,sortedP]at hI;simp-dsimp[go_sem,hN,hc];refine qai 22 mixed (by kernel_rfl) (by kernel_rfl) ?_;simp-dsimp[go_sem,hN];refine qax (c_keys_Valid _) (by simp) ?_;simp-dsimp[go_sem,hN];refine qax (c_value_Valid _ _ _) (by simp) ?_;cases n with
  |zero =>
   simp-dsimp[go_sem,hN];refine cnd ?_ ?_<;>intro hg<;>try simp at hg
   ·simp-dsimp[go_sem,hN];rw[←hI];rcases hg with h1|h1<;>simp[qcu,after,h1]
   ·simp-dsimp[go_sem,hN,hw];exact⟨hc,by simpa[hg,qcu,hc,after]using hI,wkA⟩
  |succ m =>
   have hm:m<l.length:=by omega
   have hw2:=wrapN (Nat.le_of_lt hm) hb.1;simp at hw;simp-dsimp[go_sem,hN,hw2,hm];refine cnd ?_ ?_<;>intro hg<;>try simp at hg
   ·simp-dsimp[go_sem,hN];rw[←hI];grind[qcu,after]
   ·simp-dsimp[go_sem,hN,hw];simp[hg,qcu,hm,after]at hI;exact⟨hc,by simpa[qcu,hc]using hI,wkA⟩
 ·rw[List.drop_eq_nil_of_le (by omega),sortedP]at hI;simp-dsimp[go_sem,hN,←hI]
theorem c_state_Valid(l:List Pr):APure Tryz.prog 31 [.slice (l.map Pr.c)] (Bo (qb7 l)):=by
 refine qak Tryz.func31 Tryz.ntmps31 rfl (by kernel_rfl) rfl rfl fun E h hN hh hu hb=>?_;simp-dsimp[go_sem,hN];refine qaa (c_state_sorted l) ?_;simp-dsimp[go_sem,hN];refine qae (c_ContainsFunc_Pair l _ _ c_state_absent) (by simp) ?_;simp-dsimp[go_sem,hN,qb7]
theorem c_state_Get(l:List Pr)(k:qac):APure Tryz.prog 253 [.slice (l.map Pr.c),S k] (.agg (getP l k).c):=by
 refine qak Tryz.func253 Tryz.ntmps253 rfl (by kernel_rfl) rfl rfl fun E h hN hh hu hb=>?_;simp[go_sem]at hb;simp-dsimp[go_sem,hN];refine qam l.length (fun n=>getP (l.drop n) k=getP l k) (fun n=>⟨[(0,.slice (l.map Pr.c)),(1,S k),(4,P0 h.length),(7,.slice (l.map Pr.c)),(8,I l.length),(9,I n)],h++[.cells [I 0,I 0,S em]]⟩) (by simp) wkA ?_;intro n hn hI;have hw:=qa2 hn hb.1.1;simp-dsimp[go_sem,hN];refine cnd ?_ ?_<;>intro hc<;>try simp at hc
 ·rw[qaf hc,getP]at hI;simp-dsimp[go_sem,hN,hc];refine cnd ?_ ?_<;>intro hg<;>try simp at hg
  ·simp-dsimp[go_sem,hN];simp[←hI,hg]
  ·simp-dsimp[go_sem,hN,hw];exact⟨hc,by simpa[hg]using hI,wkA⟩
 ·rw[List.drop_eq_nil_of_le (by omega),getP]at hI;simp-dsimp[go_sem,hN,←hI]
end Go.Proofs.YtilhejdbiionhaaGreatDoor

set_option maxRecDepth 4000
namespace Go.Proofs.YtilhejdbiionhaaGreatDoor
open Go Go.Abs Go.Cw
theorem c_ref05_Plain(s:qac):APure Tryz.prog 121 [S s] (Bo (qa3 s)):=by
 refine qak Tryz.func121 Tryz.ntmps121 rfl (by kernel_rfl) rfl rfl fun E h hN hh hu hb=>?_;simp[go_sem]at hb;simp-dsimp[go_sem,hN];refine cnd ?_ ?_<;>intro h0<;>simp at h0
 ·simp-dsimp[go_sem,hN];simp[qa3,Int.not_le.2 h0]
 simp-dsimp[go_sem,hN];refine qam s.size (fun n=>allL okB ((bl s).drop n)=allL okB (bl s)) (fun n=>⟨[(0,S s),(3,I n)],h⟩) (by simp) wkA ?_;intro n hn hI;have hw:=qa2 hn hb;simp-dsimp[go_sem,hN];refine cnd ?_ ?_<;>intro hc<;>simp at hc
 ·rw[bdrop hc,allL]at hI;simp-dsimp[go_sem,hN,hc];refine cnd (fun hg=>?_) (fun hg=>?_)
  ·simp-dsimp[go_sem,hN];simp[qa3,←hI,okB,hg]
  ·simp-dsimp[go_sem,hN,hw];exact⟨hc,by simpa[okB,hg]using hI,wkA⟩
 ·rw[bend (by omega),allL]at hI;simp-dsimp[go_sem,hN,qa3,←hI,h0]
theorem c_ref04_Valid(s:qac):APure Tryz.prog 122 [S s] (Bo (keyOk s)):=by
 refine qak Tryz.func122 Tryz.ntmps122 rfl (by kernel_rfl) rfl rfl fun E h hN hh hu hb=>?_;simp[go_sem]at hb;simp-dsimp[go_sem,hN];refine qam s.size (fun n=>allL keyB ((bl s).drop n)=allL keyB (bl s)) (fun n=>⟨[(0,S s),(3,I n)],h⟩) (by simp) wkA ?_;intro n hn hI;have hw:=qa2 hn hb;simp-dsimp[go_sem,hN];refine cnd ?_ ?_<;>intro hc<;>simp at hc
 ·rw[bdrop hc,allL]at hI;simp-dsimp[go_sem,hN,hc];refine⟨by omega,cnd (fun hg=>?_) (fun hg=>?_)⟩
  ·simp-dsimp[go_sem,hN];have:keyB (bAt s n)=false:=by
    simp[keyB]at hg⊢;omega
   simp[keyOk,←hI,this]
  ·simp-dsimp[go_sem,hN,hw];have:keyB (bAt s n)=true:=by
    simp[keyB]at hg⊢;omega
   exact⟨hc,by simpa[this]using hI,wkA⟩
 ·rw[bend (by omega),allL]at hI;have e1:s=em∨1≤(s.size:Int):=sz_em s;rcases e1 with rfl|e1
  ·simp-dsimp[go_sem,hN,keyOk]
  ·have e2:¬s=em:=by rintro rfl;simp at e1
   simp-dsimp[go_sem,hN,keyOk,←hI,e1,e2]
theorem c_ref05_Valid(k n:Int)(s:qac):APure Tryz.prog 75 [.agg [I k,I n,S s]] (Bo (valOk k n s)):=by
 refine qak Tryz.func75 Tryz.ntmps75 rfl (by kernel_rfl) rfl rfl fun E h hN hh hu hb=>?_;simp-dsimp[go_sem,hN];refine cnd ?_ ?_<;>intro h0<;>simp at h0<;>simp-dsimp[go_sem,hN,valOk,h0];refine cnd ?_ ?_<;>intro h1<;>simp at h1<;>simp-dsimp[go_sem,hN,valOk,h0,h1];refine qae (c_ref05_Plain s) (by simp) ?_;by_cases h2:k=2<;>simp-dsimp[go_sem,hN,valOk,h0,h1,h2]
theorem c_ref06_ascending(l:List Pr):APure Tryz.prog 76 [.slice (l.map Pr.c)] (Bo (ascP none l)):=by
 refine qak Tryz.func76 Tryz.ntmps76 rfl (by kernel_rfl) rfl rfl fun E h hN hh hu hb=>?_;simp[go_sem]at hb;simp-dsimp[go_sem,hN];refine qam l.length (fun n=>ascP ((qcu l n).map Pr.key) (l.drop n)=ascP none l) (fun n=>⟨[(0,.slice (l.map Pr.c)),(3,I n)],h⟩) (by simp[qcu]) wkA ?_;intro n hn hI;have hw:=qa2 hn hb.1;simp-dsimp[go_sem,hN];refine cnd ?_ ?_<;>intro hc<;>simp at hc
 ·rw[qaf hc,ascP]at hI;simp-dsimp[go_sem,hN,hc];refine qai 22 mixed (by kernel_rfl) (by kernel_rfl) ?_;simp-dsimp[go_sem,hN,hc];refine qax (c_ref04_Valid _) (by simp) ?_;cases n with
  |zero =>
   simp-dsimp[go_sem,hN];refine cnd ?_ ?_<;>intro hg<;>try simp at hg
   ·simp-dsimp[go_sem,hN];grind[qcu,after]
   ·simp-dsimp[go_sem,hN,hw];exact⟨hc,by simpa[hg,qcu,hc,after]using hI,wkA⟩
  |succ m =>
   have hm:m<l.length:=by omega
   have hw2:=wrapN (Nat.le_of_lt hm) hb.1;simp at hw;simp-dsimp[go_sem,hN,hw2,hm,hc];refine⟨fun hk=>⟨hk,by omega⟩,cnd (fun hg=>?_) (fun hg=>?_)⟩<;>rw[sLe_not]at hg<;>simp at hg
   ·simp-dsimp[go_sem,hN];rw[←hI];rcases hg with h1|h1<;>simp[qcu,hm,after,h1]
   ·simp-dsimp[go_sem,hN,hw];simp[hg,qcu,hm,after]at hI;exact⟨hc,by simpa[qcu,hc]using hI,wkA⟩
 ·rw[List.drop_eq_nil_of_le (by omega),ascP]at hI;simp-dsimp[go_sem,hN,←hI]
theorem c_ref06_ValidWrites(l:List Pr):APure Tryz.prog 46 [.slice (l.map Pr.c)] (Bo (writesOk l)):=by
 refine qak Tryz.func46 Tryz.ntmps46 rfl (by kernel_rfl) rfl rfl fun E h hN hh hu hb=>?_;simp[go_sem]at hb;simp-dsimp[go_sem,hN];refine qam l.length (fun n=>valsOk (l.drop n)=valsOk l) (fun n=>⟨[(0,.slice (l.map Pr.c)),(3,I n)],h⟩) (by simp) wkA ?_;intro n hn hI;have hw:=qa2 hn hb.1;simp-dsimp[go_sem,hN];refine cnd ?_ ?_<;>intro hc<;>simp at hc
 ·rw[qaf hc,valsOk,allL]at hI;simp-dsimp[go_sem,hN,hc];refine qaa (c_ref05_Valid _ _ _) ?_;simp-dsimp[go_sem,hN];refine cnd ?_ ?_<;>intro hg<;>simp at hg
  ·simp-dsimp[go_sem,hN];simp[writesOk,←hI,hg]
  ·simp-dsimp[go_sem,hN,hw];exact⟨hc,by simpa[hg,valsOk]using hI,wkA⟩
 ·rw[List.drop_eq_nil_of_le (by omega),valsOk,allL]at hI;simp-dsimp[go_sem,hN];refine qaa (c_ref06_ascending l) ?_;simp-dsimp[go_sem,hN,writesOk,←hI]
theorem c_ref06_Valid(l:List Pr):APure Tryz.prog 15 [.slice (l.map Pr.c)] (Bo (qb7 l)):=by
 rw[←stateOkR_eq];refine qak Tryz.func15 Tryz.ntmps15 rfl (by kernel_rfl) rfl rfl fun E h hN hh hu hb=>?_;simp[go_sem]at hb;simp-dsimp[go_sem,hN];refine qam l.length (fun n=>anyL (fun p=>decide (p.v.k=0)) (l.drop n)=anyL (fun p=>decide (p.v.k=0)) l) (fun n=>⟨[(0,.slice (l.map Pr.c)),(3,I n)],h⟩) (by simp) wkA ?_;intro n hn hI;have hw:=qa2 hn hb.1;simp-dsimp[go_sem,hN];refine cnd ?_ ?_<;>intro hc<;>simp at hc
 ·rw[qaf hc,anyL]at hI;simp-dsimp[go_sem,hN,hc];refine cnd ?_ ?_<;>intro hg<;>simp at hg
  ·simp-dsimp[go_sem,hN];simp[stateOkR,←hI,hg]
  ·simp-dsimp[go_sem,hN,hw];exact⟨hc,by simpa[hg]using hI,wkA⟩
 ·rw[List.drop_eq_nil_of_le (by omega),anyL]at hI;simp-dsimp[go_sem,hN];refine qaa (c_ref06_ValidWrites l) ?_;simp-dsimp[go_sem,hN,stateOkR,←hI]
theorem c_ref06_Has(l:List Pr)(k:qac):APure Tryz.prog 241 [.slice (l.map Pr.c),S k] (Bo (hasP l k)):=by
 refine qak Tryz.func241 Tryz.ntmps241 rfl (by kernel_rfl) rfl rfl fun E h hN hh hu hb=>?_;simp[go_sem]at hb;simp-dsimp[go_sem,hN];refine qam l.length (fun n=>hasP (l.drop n) k=hasP l k) (fun n=>⟨[(0,.slice (l.map Pr.c)),(1,S k),(5,I n)],h⟩) (by simp) wkA ?_;intro n hn hI;have hw:=qa2 hn hb.1.1;simp-dsimp[go_sem,hN];refine cnd ?_ ?_<;>intro hc<;>simp at hc
 ·rw[qaf hc,hasP,anyL]at hI;simp-dsimp[go_sem,hN,hc];refine cnd ?_ ?_<;>intro hg<;>simp at hg
  ·simp-dsimp[go_sem,hN];simp[←hI,hg]
  ·simp-dsimp[go_sem,hN,hw];exact⟨hc,by simpa[hg,hasP]using hI,wkA⟩
 ·rw[List.drop_eq_nil_of_le (by omega),hasP,anyL]at hI;simp-dsimp[go_sem,hN,←hI]
theorem c_ref06_Get(l:List Pr)(k:qac):APure Tryz.prog 243 [.slice (l.map Pr.c),S k] (.agg (getP l k).c):=by
 refine qak Tryz.func243 Tryz.ntmps243 rfl (by kernel_rfl) rfl rfl fun E h hN hh hu hb=>?_;simp[go_sem]at hb;simp-dsimp[go_sem,hN];refine qam l.length (fun n=>getP (l.drop n) k=getP l k) (fun n=>⟨[(0,.slice (l.map Pr.c)),(1,S k),(4,P0 h.length),(5,I n)],h++[.cells [I 0,I 0,S em]]⟩) (by simp) wkA ?_;intro n hn hI;have hw:=qa2 hn hb.1.1;simp-dsimp[go_sem,hN];refine cnd ?_ ?_<;>intro hc<;>simp at hc
 ·rw[qaf hc,getP]at hI;simp-dsimp[go_sem,hN,hc];refine cnd ?_ ?_<;>intro hg<;>simp at hg
  ·simp-dsimp[go_sem,hN,hc];simp[←hI,hg]
  ·simp-dsimp[go_sem,hN,hw];exact⟨hc,by simpa[hg]using hI,wkA⟩
 ·rw[List.drop_eq_nil_of_le (by omega),getP]at hI;simp-dsimp[go_sem,hN,←hI]
end Go.Proofs.YtilhejdbiionhaaGreatDoor

set_option maxRecDepth 4000
namespace Go.Proofs.YtilhejdbiionhaaGreatDoor
open Go Go.Abs Go.Cw
attribute [go_sem] eqVal eqP eqB eqA fitA
theorem c_ref15_Has(l:List qac)(k:qac):APure Tryz.prog 245 [.slice (l.map qa1),S k] (Bo (qd1 l k)):=by
 refine qak Tryz.func245 Tryz.ntmps245 rfl (by kernel_rfl) rfl rfl fun E h hN hh hu hb=>?_;simp[go_sem]at hb;simp-dsimp[go_sem,hN];refine qam l.length (fun n=>qd1 (l.drop n) k=qd1 l k) (fun n=>⟨[(0,.slice (l.map qa1)),(1,S k),(5,I n)],h⟩) (by simp) wkA ?_;intro n hn hI;have hw:=qa2 hn hb.1.1;simp-dsimp[go_sem,hN];refine cnd ?_ ?_<;>intro hc<;>simp at hc
 ·rw[qaf hc,qd1,anyL]at hI;simp-dsimp[go_sem,hN,hc];refine cnd ?_ ?_<;>intro hg<;>simp at hg
  ·simp-dsimp[go_sem,hN];simp[←hI,hg]
  ·simp-dsimp[go_sem,hN,hw];exact⟨hc,by simpa[hg,qd1]using hI,wkA⟩
 ·rw[List.drop_eq_nil_of_le (by omega),qd1,anyL]at hI;simp-dsimp[go_sem,hN,←hI]
theorem c_Index_S(l:List qac)(k:qac):APure Tryz.prog 222 [.slice (l.map qa1),S k] (I (idxOf (fun x=>decide (k=x)) l)):=by
 refine qak Tryz.func222 Tryz.ntmps222 rfl (by kernel_rfl) rfl rfl fun E h hN hh hu hb=>?_;simp[go_sem]at hb;simp-dsimp[go_sem,hN];refine qam l.length (fun n=>qed (fun x=>decide (k=x)) n (l.drop n)=idxOf (fun x=>decide (k=x)) l) (fun n=>⟨[(0,.slice (l.map qa1)),(1,S k),(7,I l.length),(8,I n)],h⟩) (by simp[idxOf]) wkA ?_;intro n hn hI;have hw:=qa2 hn hb.1.1;simp-dsimp[go_sem,hN];refine cnd ?_ ?_<;>intro hc<;>simp at hc
 ·rw[qaf hc,qed]at hI;simp-dsimp[go_sem,hN,hc];refine cnd ?_ ?_<;>intro hg<;>simp at hg
  ·simp-dsimp[go_sem,hN];simpa[hg]using hI
  ·simp-dsimp[go_sem,hN,hw];exact⟨hc,by simpa[hg]using hI,wkA⟩
 ·rw[List.drop_eq_nil_of_le (by omega),qed]at hI;simp-dsimp[go_sem,hN,←hI]
theorem c_Contains_S(l:List qac)(k:qac):APure Tryz.prog 176 [.slice (l.map qa1),S k] (Bo (qd1 l k)):=by
 refine qak Tryz.func176 Tryz.ntmps176 rfl (by kernel_rfl) rfl rfl fun E h hN hh hu hb=>?_;simp-dsimp[go_sem,hN];refine qaa (c_Index_S l k) ?_;simp-dsimp[go_sem,hN,idxOf_nonneg];simp[qd1,eq_comm]
end Go.Proofs.YtilhejdbiionhaaGreatDoor
