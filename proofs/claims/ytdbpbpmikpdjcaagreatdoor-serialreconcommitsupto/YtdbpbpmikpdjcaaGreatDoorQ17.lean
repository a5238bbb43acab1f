/- Part 17 of a proof: R1, W3, W13, W19, W20, W21, W22 -/
import Derived.Shelf.Small.Strs
import Derived.Shelf.Strconv.Itoa4
import Derived.Lib.ItoaLen
import Derived.Test.YtdbpbpmikpdjcaaGreatDoorQ08
import Derived.Test.YtdbpbpmikpdjcaaGreatDoorQ09
import Derived.Test.YtdbpbpmikpdjcaaGreatDoorQ11
import Derived.Test.YtdbpbpmikpdjcaaGreatDoorQ12
import Derived.Test.YtdbpbpmikpdjcaaGreatDoorQ14
import Derived.Test.YtdbpbpmikpdjcaaGreatDoorQ15
import Derived.Test.YtdbpbpmikpdjcaaGreatDoorQ16
set_option linter.all false

namespace Go.Proofs.YtdbpbpmikpdjcaaGreatDoor
open Go Go.Abs Go.Cw
@[simp] theorem any20:anyT Tryz.prog 20=true:=by kernel_rfl
theorem c_run1_ret {c:Ctx} {h:qaa} {w:World} (hs:HSim c h w) {i4 i5:Nat} {vs:Array Value} (ha:RelL c [.ptr i4 0,.ptr i5 0] vs) :
  CallsD Tryz.prog 123 vs .returning w fun e u' w'=>(∃ v,e=.returned v)∧u'=.returning∧∃ c',HSim c' h w'∧(⟨12,c,h,w⟩:Ent).ok c' h w':=by
 refine callsD_of_wpS Tryz.func123 rfl fun c₀ cs hu=>?_
 have s0:=sim_enter (N:=12) hs ha (by simp)
 refine wpS_seq (wpS_region ?_)
 simp [wpOpsS,go_sem,recoverD,hu,Exit.thenS,Tryz.ntmps123]
 obtain ⟨q1,q2,q3,q4,q5,q6,q7⟩:=c₀
 simp only at hu
 subst hu
 have s1:=s0.put (.refl c) hs (d:=some 5) (by simp) (Rel.val Value.nilIface)
 refine wpS_fn (E:=⟨12,c,h,w⟩) (c₀:=⟨q1,q2,q3,q4,.returning,q6,q7⟩) (U:=.returning) (cs:=cs) (fn:=Tryz.f123) s1 (Ent.ok.refl 12 hs) (H:=h) (n0:=h.length) (Nat.le_refl _) ?_
 refine qao _ _ _ ?_
 have hN:(⟨12,c,h,w⟩:Ent).N=12:=rfl
 have hu':=hs.hUnder
 simp -dsimp [go_sem,hN,Tryz.f123,hu']
 exact ⟨.tuple [],.refl _,h,rfl,hwk.refl _,Nat.le_refl _,hu',rfl,rfl⟩
@[simp] theorem za74:zeroAV Tryz.prog 127=some (.agg [I 0,I 0,.nils,S em]):=by kernel_rfl
theorem c_run1_pan {c:Ctx} {h:qaa} {w:World} (hs:HSim c h w) {i4 i5:Nat} {vs:Array Value} (ha:RelL c [.ptr i4 0,.ptr i5 0] vs) {st:List AV} (hst:st.length=4) (x4:List AV) (h4:h[i4]?=some (.cells x4)) (hx4:x4.length=4) (x5:AV) (h5:h[i5]?=some (.cells [x5])) (h45:i4≠i5) (hds:st.all AV.one=true)
  {v:Value} (hv:Rel c (.iface 127 (.agg st)) v) :
  CallsD Tryz.prog 123 vs (.panicking [⟨v,false,false⟩]) w fun e u' w'=>(∃ v,e=.returned v)∧u'=.panicking [⟨v,true,false⟩]∧∃ c',HSim c' ((h.set i4 (.cells st)).set i5 (.cells [Bo true])) w'∧(⟨12,c,h,w⟩:Ent).ok c' ((h.set i4 (.cells st)).set i5 (.cells [Bo true])) w':=by
 refine callsD_of_wpS Tryz.func123 rfl fun c₀ cs hu=>?_
 have s0:=sim_enter (N:=12) hs ha (by simp)
 refine wpS_seq (wpS_region ?_)
 simp [wpOpsS,go_sem,recoverD,hu,Exit.thenS,Tryz.ntmps123]
 have s1:=s0.put (.refl c) hs (d:=some 5) (by simp) hv
 refine wpS_fn (E:=⟨12,c,h,w⟩) (c₀:=c₀) (U:=.panicking [⟨v,true,false⟩]) (cs:=cs) (fn:=Tryz.f123) s1 (Ent.ok.refl 12 hs) (H:=(h.set i4 (.cells st)).set i5 (.cells [Bo true])) (n0:=h.length) (Nat.le_refl _) ?_
 refine qao _ _ _ ?_
 have hN:(⟨12,c,h,w⟩:Ent).N=12:=rfl
 have hu':=hs.hUnder
 have l4:i4<h.length:=(List.getElem?_eq_some_iff.1 h4).1
 have l5:i5<h.length:=(List.getElem?_eq_some_iff.1 h5).1
 obtain ⟨a,b,d,e,rfl⟩:∃ a b d e,st=[a,b,d,e]:=by
  match st,hst with
  | [a,b,d,e],_=>exact ⟨a,b,d,e,rfl⟩
 have hun:qat h.length [a,b,d,e]=true:=by
  have:=hv.under hs.dom
  simpa [AV.under] using this
 have a4:(h++[AObj.cells [a,b,d,e]])[i4]?=some (.cells x4):=by rw [List.getElem?_append_left l4];exact h4
 have a5:((h++[AObj.cells [a,b,d,e]]).set i4 (AObj.cells [a,b,d,e]))[i5]?=some (.cells [x5]):=by rw [List.getElem?_set_ne h45,List.getElem?_append_left l5];exact h5
 simp -dsimp [go_sem,hN,Tryz.f123,hu',a4,a5,hx4]
 rw [show x4.drop 4=[] from List.drop_eq_nil_of_le (by omega),a5]
 refine ⟨by simp,.tuple [],.refl _,_,rfl,?_,?_,?_,rfl,rfl⟩
 ·
  rw [List.set_append_left _ _ l4,List.set_append_left _ _ (by simpa using l5)]
  exact hwk.app0 _
 · simp
 ·
  simp only [List.length_set]
  exact qcf (qcf hu' hun) (by simp [AObj.under,qat,AV.under])
def zs:List AV:=[I 0,I 0,.slice [],S em]
theorem c_interp_run (m:AV) {g:FuncId} {first caps:List AV} {h:qaa} {Rg R:AEnd→qaa→Prop} (hg:ACalls Tryz.prog g (qa4 (h++[.cells [I 0,I 0,.nils,S em],.cells [Bo false]]) (first++caps)) (h++[.cells [I 0,I 0,.nils,S em],.cells [Bo false]]) Rg)
  (hR:∀ r h',Rg r h'→h.length+2≤h'.length→(∃ x4,h'[h.length]?=some (.cells x4)∧x4.length=4)∧(∃ x5,h'[h.length+1]?=some (.cells [x5]))∧hUnder h.length (h'.take h.length)=true∧match r with
   | .ret _=>R (.ret (.tuple [.agg zs,Bo false])) (h'.take h.length)
   | .panic (.iface 127 (.agg st))=>st.length=4∧st.all AV.one=true∧qat h.length st=true∧R (.ret (.tuple [.agg st,Bo true])) (h'.take h.length)
   | _=>False) (hst':∀ h' st,Rg (.panic (.iface 127 (.agg st))) h'→∀ H,qa4 H st=st):ACalls Tryz.prog 88 [m,.fn (.func g) first caps] h R:=by
 refine ⟨⟨_,Tryz.func88,by kernel_rfl,by kernel_rfl⟩,fun c w vs hs ha=>?_⟩
 refine calls_of_wp_defers Tryz.func88 rfl ?_
 have s0:=sim_enter (N:=10) hs ha (by simp)
 have k0:=Ent.ok.refl 10 hs
 rw [Tryz.ntmps88]
 refine wp_seq (wp_mono ((awp_opsG (E:=⟨10,c,h,w⟩) (Q:=fun x e=>x=.normal∧e=⟨[(5,.ptr (h.length+1) 0),(4,.ptr h.length 0),(0,m),(1,.fn (.func g) first caps)],h++[.cells [I 0,I 0,.nils,S em],.cells [Bo false]]⟩) ?_) c _ w s0 k0) ?_)
 ·
  have hN:(⟨10,c,h,w⟩:Ent).N=10:=rfl
  simp -dsimp [go_sem,hN]
 rintro ex a1 w1 ⟨x',e1,c1,⟨rfl,rfl⟩,hx,s1,k1⟩
 cases ex<;>simp only [XR] at hx
 show Code.wp _ _ _ a1 w1
 have t4:=s1.tmps 4
 have t5:=s1.tmps 5
 have t1:=s1.tmps 1
 simp [qa5] at t4 t5 t1
 refine wp_seq (wp_region_list ?_)
 have sz:a1.tmps.size=10:=s1.size
 have df:a1.defers=[]:=s1.defers
 obtain ⟨tm,dfs⟩:=a1
 simp only at sz df
 subst df
 simp [wpList,go_sem,Oper.wp,Oper.upon,Instr.makeFunc,sz]
 refine .inl (.inl ?_)
 have s3:=s1.put (.refl c1) s1.hs (d:=some 6) (by simp) (Rel.top (Value.func (Fn.func 123) #[] #[tm[4],tm[5]]))
 have E3:({ tmps:=tm.setIfInBounds 6 (Value.func (Fn.func 123) #[] #[tm[4],tm[5]]),defers:=[{ target:=Target.fn (Fn.func 123) #[tm[4],tm[5]],args:=#[] }] }:Act)=ddf [{ target:=Target.fn (Fn.func 123) #[tm[4],tm[5]],args:=#[] }] (({ tmps:=tm,defers:=[] }:Act).put (some 6) (Value.func (Fn.func 123) #[] #[tm[4],tm[5]])):=rfl
 rw [E3]
 have hd4:∀ c',c1.le c'→RelL c' [.ptr h.length 0,.ptr (h.length+1) 0] #[tm[4],tm[5]]:=fun c' hle=>⟨rfl,fun j x v hx hv=>by
  match j with
  | 0=>simp at hx hv;subst hx;subst hv;simpa [sz] using t4.mono hle
  | 1=>simp at hx hv;subst hx;subst hv;simpa [sz] using t5.mono hle
  | j+2=>simp at hx⟩
 -- what stands behind the deferred call
 have fin:∀ (c5:Ctx) (e5:Env) (a5:Act) (w5:World) (hf:qaa) (st:List AV) (b:Bool),Sim 10 c5 e5 a5 w5→(⟨10,c,h,w⟩:Ent).ok c5 e5.h w5→qa5 e5.t 4=.ptr h.length 0→qa5 e5.t 5=.ptr (h.length+1) 0 →
   e5.h[h.length]?=some (.cells st)→st.length=4→qat h.length (qa4 e5.h st)=true→e5.h[h.length+1]?=some (.cells [Bo b])→hwk e5.h hf→hf.length=h.length→hUnder h.length hf=true→R (.ret (.tuple [.agg (qa4 e5.h st),Bo b])) hf →
   ∃ v,(results Tryz.f88 a5.tmps).run Tryz.prog w5=.ok v w5∧∃ r h',R r h'∧∃ x,EndR x r (.returned v)∧HSim x h' w5∧(⟨0,c,h,w⟩:Ent).ok x h' w5:=by
  intro c5 e5 a5 w5 hf st b s5 k5 l4 l5 g4 hst hun g5 hw hl hu hRR
  obtain ⟨v,hv,hr⟩:=results_ok (E:=⟨10,c,h,w⟩) (P:=Tryz.prog) s5 Tryz.f88 (by
   simp [Tryz.f88,go_sem,l4,l5,g4,g5,hst])
  have hval:(mkRes ((Tryz.f88).results.toList.map fun r=>(resSV Tryz.prog e5 r).val))=.tuple [.agg st,Bo b]:=by
   have ht:st.take 4=st:=List.take_of_length_le (by omega)
   simp [Tryz.f88,go_sem,l4,l5,g4,g5,ht]
  rw [hval] at hr
  obtain ⟨c6,q1,q2,q3⟩:=finish (E:=⟨10,c,h,w⟩) s5 k5 hr (r':=.tuple [.agg (qa4 e5.h st),Bo b]) (h':=hf) (by simp [AV.norm,qa4]) (by simp [AV.under,qat,hl];exact hun) hw (by simp [hl]) (by rw [hl];exact hu)
  exact ⟨v,hv,_,hf,hRR,c6,q3,q1,q2.withN 0⟩
 have k3:(⟨10,c1,h++[.cells [I 0,I 0,.nils,S em],.cells [Bo false]],w1⟩:Ent).ok c1 (h++[.cells [I 0,I 0,.nils,S em],.cells [Bo false]]) w1:=Ent.ok.refl 10 s1.hs
 refine wp_seq (wp_region_list (wpList_ddf (Q:=conc ⟨10,c1,h++[.cells [I 0,I 0,.nils,S em],.cells [Bo false]],w1⟩ fun x e=>match x with
  | .normal=>(∃ v,Rg (.ret v) e.h)∧qa5 e.t 4=.ptr h.length 0∧qa5 e.t 5=.ptr (h.length+1) 0
  | .panic v=>Rg (.panic v) e.h∧qa5 e.t 4=.ptr h.length 0∧qa5 e.t 5=.ptr (h.length+1) 0
  | _=>False) ?_ ((qb5 (E:=⟨10,c1,h++[.cells [I 0,I 0,.nils,S em],.cells [Bo false]],w1⟩) _ [] _ rfl ?_) c1 _ w1 s3 k3)))
 ·
  rintro x a w2 ⟨x',e2,c2,hq,hx,s2,k2⟩
  have hle:c1.le c2:=k2.ext
  have hlen:h.length+2≤e2.h.length:=by simpa using k2.len
  cases x' with
  | normal =>
   cases x<;>simp only [XR] at hx
   obtain ⟨⟨v,hv⟩,l4,l5⟩:=hq
   obtain ⟨⟨x4,g4,lx4⟩,⟨x5,g5⟩,hu2,hRR⟩:=hR _ _ hv hlen
   show Code.wp _ _ _ _ _
   have n4:h.length<e2.h.length:=by omega
   have n5:h.length+1<e2.h.length:=by omega
   refine wp_seq (wp_region_list (wpList_ddf (Q:=conc ⟨10,c2,e2.h,w2⟩ fun x e=>x=.normal∧e.h=(e2.h.set h.length (.cells [I 0,I 0,.nils,S em])).set (h.length+1) (.cells [Bo false])∧qa5 e.t 4=.ptr h.length 0∧qa5 e.t 5=.ptr (h.length+1) 0) ?_ ((qb5 (E:=⟨10,c2,e2.h,w2⟩) _ [] _ rfl ?_) c2 _ w2 s2 (Ent.ok.refl 10 s2.hs))))
   ·
    rintro x a w3 ⟨x',e3,c3,⟨rfl,h3,l4',l5'⟩,hx,s3',k3'⟩
    cases x<;>simp only [XR] at hx
    show Code.wp _ _ _ _ _
    refine wp_ret ?_
    have hle3:c1.le c3:=hle.trans k3'.ext
    show Leaves _ _ _ _ (a.defers++_) _ _
    rw [s3'.defers,List.nil_append]
    refine leaves_cons (f:=123) (args:=#[tm[4],tm[5]]) (by simp) (by simp [invoke]) ((c_run1_ret s3'.hs (hd4 c3 hle3)).mono ?_)
    rintro en u' w4 ⟨⟨v4,rfl⟩,rfl,c4,s4,k4⟩
    have sim4:Sim 10 c4 e3 a w4:=⟨s3'.defers,s3'.size,fun i=>(s3'.tmps i).mono k4.ext,s4⟩
    have e3a:e3.h[h.length]?=some (.cells [I 0,I 0,.nils,S em]):=by rw [h3];simp [n4]
    have e3b:e3.h[h.length+1]?=some (.cells [Bo false]):=by rw [h3];simp [n5]
    have kk:(⟨10,c,h,w⟩:Ent).ok c4 e3.h w4:=((k1.trans k2).trans k3').trans k4
    obtain ⟨v5,h5,h6⟩:=fin c4 e3 a w4 (e2.h.take h.length) [I 0,I 0,.nils,S em] false sim4 kk l4' l5' e3a rfl (by simp [qa4,AV.norm,qat,AV.under]) e3b (by
     rw [h3]
     exact hwk_take2 (by omega)) (by simp;omega) hu2 (by simpa [qa4,AV.norm,zs] using hRR)
    exact ⟨v5,h5,h6⟩
   ·
    have hN:(⟨10,c2,e2.h,w2⟩:Ent).N=10:=rfl
    have g5':(e2.h.set h.length (AObj.cells [I 0,I 0,.nils,S em]))[h.length+1]?=some (.cells [x5]):=by rw [List.getElem?_set_ne (by omega)];exact g5
    simp -dsimp [go_sem,hN,l4,l5,g4,g5,lx4]
    try rw [show x4.drop 4=[] from List.drop_eq_nil_of_le (by omega)]
    try simp -dsimp [go_sem,g5',l4,l5]
  | panic v =>
   obtain ⟨hv,l4,l5⟩:=hq
   obtain ⟨⟨x4,g4,lx4⟩,⟨x5,g5⟩,hu2,hRR⟩:=hR _ _ hv hlen
   split at hRR
   · rename_i he;cases he
   ·
    rename_i st he
    cases he
    obtain ⟨hst,hone,hun,hRR⟩:=hRR
    cases x with
    | panic ch =>
     cases ch with
     | nil=>simp [XR] at hx
     | cons p l =>
      cases l with
      | cons=>simp [XR] at hx
      | nil =>
       obtain ⟨u,rc,gx⟩:=p
       cases rc<;>cases gx<;>simp only [XR] at hx
       show Leaves _ _ _ _ (a.defers++_) _ _
       rw [s2.defers,List.nil_append]
       refine leaves_cons (f:=123) (args:=#[tm[4],tm[5]]) (by simp) (by simp [invoke]) ((c_run1_pan s2.hs (hd4 c2 hle) hst x4 g4 lx4 x5 g5 (by omega) hone hx).mono ?_)
       rintro en u' w4 ⟨⟨v4,rfl⟩,rfl,c4,s4,k4⟩
       have n4:h.length<e2.h.length:=by omega
       have n5:h.length+1<e2.h.length:=by omega
       have sim4:Sim 10 c4 ⟨e2.t,(e2.h.set h.length (.cells st)).set (h.length+1) (.cells [Bo true])⟩ a w4:=⟨s2.defers,s2.size,fun i=>(s2.tmps i).mono k4.ext,s4⟩
       have kk:(⟨10,c,h,w⟩:Ent).ok c4 ((e2.h.set h.length (.cells st)).set (h.length+1) (.cells [Bo true])) w4:=(k1.trans k2).trans k4
       have hnorm:qa4 ((e2.h.set h.length (.cells st)).set (h.length+1) (.cells [Bo true])) st=st:=hst' _ _ hv _
       obtain ⟨v5,h5,h6⟩:=fin c4 ⟨e2.t,(e2.h.set h.length (.cells st)).set (h.length+1) (.cells [Bo true])⟩ a w4 (e2.h.take h.length) st true sim4 kk l4 l5 (by simp [n4]) hst (by rw [hnorm];exact hun) (by simp [n5]) (hwk_take2 (by omega)) (by simp;omega) hu2 (by rw [hnorm];exact hRR)
       exact ⟨v5,h5,h6⟩
    | _=>simp [XR] at hx
   · exact hRR.elim
  | _=>exact hq.elim
 ·
  have hN:(⟨10,c1,h++[.cells [I 0,I 0,.nils,S em],.cells [Bo false]],w1⟩:Ent).N=10:=rfl
  simp -dsimp [go_sem,hN]
  refine qai hg fun r h' hr=>?_
  cases r<;>simp [go_sem,hr]
  exact ⟨_,hr⟩
end Go.Proofs.YtdbpbpmikpdjcaaGreatDoor

set_option maxRecDepth 4000
namespace Go.Proofs.YtdbpbpmikpdjcaaGreatDoor
open Go Go.Abs Go.Cw
attribute [go_sem] eqVal eqP eqB eqA fitA
theorem c_ref06_Same (l l':List Pr):APure Tryz.prog 15 [.slice (l.map Pr.c),.slice (l'.map Pr.c)] (Bo (qcb eqP l l')):=by
 refine qaz Tryz.func15 Tryz.ntmps15 rfl (by kernel_rfl) rfl rfl fun E h hN hh hu hb=>?_
 simp [go_sem] at hb
 simp -dsimp [go_sem,hN]
 refine cnd ?_ ?_<;>intro h0<;>simp at h0
 ·
  simp -dsimp [go_sem,hN]
  exact sameL_len (by omega)
 simp -dsimp [go_sem,hN]
 refine qap l.length (fun n=>qcb eqP (l.drop n) (l'.drop n)=qcb eqP l l') (fun n=>⟨[(0,.slice (l.map Pr.c)),(1,.slice (l'.map Pr.c)),(5,I n)],h⟩) (by simp) (Wk.mk (by simp [hh]) (by simp [go_sem]) (by simp [hu,qab hu,go_sem]) (by simp [go_sem])) ?_
 intro n hn hI
 have hw:=qbe hn hb.1.1
 simp -dsimp [go_sem,hN]
 refine cnd ?_ ?_<;>intro hc<;>simp at hc
 ·
  have hc':n<l'.length:=by omega
  rw [qag hc,qag hc',qcb] at hI
  simp -dsimp [go_sem,hN,hc,hc']
  refine qak 8 mixed (by kernel_rfl) (by kernel_rfl) ?_
  simp -dsimp [go_sem,hN,hc,hc']
  refine cnd ?_ ?_<;>intro hg<;>simp at hg
  ·
   simp -dsimp [go_sem,hN]
   rw [← hI]
   simp [eqP,eqVal]
   grind
  ·
   simp -dsimp [go_sem,hN,hw]
   refine ⟨hc,?_,(Wk.mk (by simp [hh]) (by simp [go_sem]) (by simp [hu,qab hu,go_sem]) (by simp [go_sem]))⟩
   rw [← hI]
   simp [eqP,eqVal,hg]
 ·
  rw [List.drop_eq_nil_of_le (by omega),List.drop_eq_nil_of_le (by omega),qcb] at hI
  simp -dsimp [go_sem,hN,← hI]
theorem c_sameKeys (l l':List qad):APure Tryz.prog 51 [.slice (l.map qbg),.slice (l'.map qbg)] (Bo (qcb eqB l l')):=by
 refine qaz Tryz.func51 Tryz.ntmps51 rfl (by kernel_rfl) rfl rfl fun E h hN hh hu hb=>?_
 simp [go_sem] at hb
 simp -dsimp [go_sem,hN]
 refine cnd ?_ ?_<;>intro h0<;>simp at h0
 ·
  simp -dsimp [go_sem,hN]
  exact sameL_len (by omega)
 simp -dsimp [go_sem,hN]
 refine qap l.length (fun n=>qcb eqB (l.drop n) (l'.drop n)=qcb eqB l l') (fun n=>⟨[(0,.slice (l.map qbg)),(1,.slice (l'.map qbg)),(5,I n)],h⟩) (by simp) (Wk.mk (by simp [hh]) (by simp [go_sem]) (by simp [hu,qab hu,go_sem]) (by simp [go_sem])) ?_
 intro n hn hI
 have hw:=qbe hn hb.1.1
 simp -dsimp [go_sem,hN]
 refine cnd ?_ ?_<;>intro hc<;>simp at hc
 ·
  have hc':n<l'.length:=by omega
  rw [qag hc,qag hc',qcb] at hI
  simp -dsimp [go_sem,hN,hc,hc']
  refine qak 8 mixed (by kernel_rfl) (by kernel_rfl) ?_
  simp -dsimp [go_sem,hN,hc,hc']
  refine cnd ?_ ?_<;>intro hg<;>simp at hg
  ·
   simp -dsimp [go_sem,hN]
   rw [← hI]
   simp [eqB,eqVal]
   grind
  ·
   simp -dsimp [go_sem,hN,hw]
   refine ⟨hc,?_,(Wk.mk (by simp [hh]) (by simp [go_sem]) (by simp [hu,qab hu,go_sem]) (by simp [go_sem]))⟩
   rw [← hI]
   simp [eqB,eqVal,hg]
 ·
  rw [List.drop_eq_nil_of_le (by omega),List.drop_eq_nil_of_le (by omega),qcb] at hI
  simp -dsimp [go_sem,hN,← hI]
set_option maxHeartbeats 1000000 in
theorem c_ref15_Same (a b:Eff):APure Tryz.prog 22 [.agg a.c,.agg b.c] (Bo (sameE a b)):=by
 refine qaz Tryz.func22 Tryz.ntmps22 rfl (by kernel_rfl) rfl rfl fun E h hN hh hu hb=>?_
 simp [go_sem] at hb
 simp -dsimp [go_sem,hN]
 refine awp_drawG 7 mixed (by kernel_rfl) ?_
 simp -dsimp [go_sem,hN]
 refine ⟨by simp [sepD,List.zipIdx],?_⟩
 refine cnd ?_ ?_<;>intro h0<;>simp at h0
 ·
  simp -dsimp [go_sem,hN]
  have:sameE a b=false:=by
   rcases h0 with (h0 | h0) | h0
   · simp [sameE,h0]
   · simp [sameE,h0]
   · simp [sameE,sameL_len (f:=eqVal) (l:=a.out) (l':=b.out) (by omega)]
  rw [this]
 simp -dsimp [go_sem,hN]
 refine qap a.out.length (fun n=>qcb eqVal (a.out.drop n) (b.out.drop n)=qcb eqVal a.out b.out) (fun n=>⟨[(2,.ptr h.length 0),(3,.ptr (h.length+1) 0),(5,.ptr (h.length+2) 0),(6,.ptr (h.length+3) 0),(7,I n)],h++[.cells a.c,.cells b.c,.cells [I a.status,I a.code,.slice (a.out.map V.c)],.cells [I b.status,I b.code,.slice (b.out.map V.c)]]⟩) (by simp) (Wk.mk (by simp [hh]) (by simp [go_sem]) (by simp [hu,qab hu,go_sem]) (by simp [go_sem])) ?_
 intro n hn hI
 have hw:=qbe hn hb.1.1.1
 simp -dsimp [go_sem,hN]
 refine cnd ?_ ?_<;>intro hc<;>simp at hc
 ·
  have hc':n<b.out.length:=by omega
  rw [qag hc,qag hc',qcb] at hI
  simp -dsimp [go_sem,hN,hc,hc']
  refine qak 10 mixed (by kernel_rfl) (by kernel_rfl) ?_
  simp -dsimp [go_sem,hN,hc,hc']
  refine cnd ?_ ?_<;>intro hg<;>simp at hg
  ·
   simp -dsimp [go_sem,hN]
   have:qcb eqVal a.out b.out=false:=by
    rw [← hI]
    simp [eqVal]
    grind
   simp [sameE,this]
  ·
   simp -dsimp [go_sem,hN,hw]
   refine ⟨hc,?_,(Wk.mk (by simp [hh]) (by simp [go_sem]) (by simp [hu,qab hu,go_sem]) (by simp [go_sem]))⟩
   rw [← hI]
   simp [eqVal,hg]
 ·
  rw [List.drop_eq_nil_of_le (by omega),List.drop_eq_nil_of_le (by omega),qcb] at hI
  simp -dsimp [go_sem,hN]
  refine qac (c_sameKeys _ _) ?_
  simp -dsimp [go_sem,hN]
  refine qaj (c_sameKeys _ _) (by simp) ?_
  simp -dsimp [go_sem,hN]
  refine qaj (c_ref06_Same _ _) (by simp) ?_
  simp -dsimp [go_sem,hN,sameE,h0,← hI]
theorem c_Index_S (l:List qad) (k:qad):APure Tryz.prog 233 [.slice (l.map qbg),S k] (I (idxOf (fun x=>decide (k=x)) l)):=by
 refine qaz Tryz.func233 Tryz.ntmps233 rfl (by kernel_rfl) rfl rfl fun E h hN hh hu hb=>?_
 simp [go_sem] at hb
 simp -dsimp [go_sem,hN]
 refine qap l.length (fun n=>qbr (fun x=>decide (k=x)) n (l.drop n)=idxOf (fun x=>decide (k=x)) l) (fun n=>⟨[(0,.slice (l.map qbg)),(1,S k),(7,I l.length),(8,I n)],h⟩) (by simp [idxOf]) (Wk.mk (by simp [hh]) (by simp [go_sem]) (by simp [hu,qab hu,go_sem]) (by simp [go_sem])) ?_
 intro n hn hI
 have hw:=qbe hn hb.1.1
 simp -dsimp [go_sem,hN]
 refine cnd ?_ ?_<;>intro hc<;>simp at hc
 ·
  rw [qag hc,qbr] at hI
  simp -dsimp [go_sem,hN,hc]
  refine cnd ?_ ?_<;>intro hg<;>simp at hg
  ·
   simp -dsimp [go_sem,hN]
   simpa [hg] using hI
  ·
   simp -dsimp [go_sem,hN,hw]
   exact ⟨hc,by simpa [hg] using hI,(Wk.mk (by simp [hh]) (by simp [go_sem]) (by simp [hu,qab hu,go_sem]) (by simp [go_sem]))⟩
 ·
  rw [List.drop_eq_nil_of_le (by omega),qbr] at hI
  simp -dsimp [go_sem,hN,← hI]
theorem c_Contains_S (l:List qad) (k:qad):APure Tryz.prog 190 [.slice (l.map qbg),S k] (Bo (hasK l k)):=by
 refine qaz Tryz.func190 Tryz.ntmps190 rfl (by kernel_rfl) rfl rfl fun E h hN hh hu hb=>?_
 simp -dsimp [go_sem,hN]
 refine qac (c_Index_S l k) ?_
 simp -dsimp [go_sem,hN,idxOf_nonneg]
 simp [hasK,eq_comm]
end Go.Proofs.YtdbpbpmikpdjcaaGreatDoor

set_option maxRecDepth 4000
namespace Go.Proofs.YtdbpbpmikpdjcaaGreatDoor
open Go Go.Abs Go.Cw
@[go_sem] theorem zero_int:zeroAV Tryz.prog 3=some (I 0):=by kernel_rfl
@[go_sem] theorem zero_bool:zeroAV Tryz.prog 4=some (Bo false):=by kernel_rfl
@[go_sem] theorem zero_Value:zeroAV Tryz.prog 77=some (.agg [I 0,I 0,S ⟨#[]⟩]):=by kernel_rfl
theorem c_types_of (vars:List (qad×Int)) (e:Ex) (d:Nat) (hv:chkE e d=0) (h:qaa) (m:Nat) (hm:h[m]?=some (.map (kAV I vars))) :
  ACalls Tryz.prog 283 [.agg e.x,.mapr m] h fun r h'=>r=.ret (.tuple [I (ofE vars e).1,I (ofE vars e).2])∧h'=h:=by
 refine qav Tryz.func283 Tryz.ntmps283 rfl (by kernel_rfl) rfl fun E hN hh hu hb hb' hua=>?_
 simp [go_sem] at hb
 have hml:m<h.length:=(List.getElem?_eq_some_iff.1 hm).1
 have a1:∀ l:qaa,(h++l)[m]?=h[m]?:=fun l=>List.getElem?_append_left hml
 simp -dsimp [go_sem,hN]
 refine cnd ?_ ?_<;>intro h0<;>simp at h0
 ·
  have ho:ofE vars e=varT (kGet vars e.s):=by rw [ofE_eq,if_pos h0]
  rcases hk:kGet vars e.s with _ | ty
  ·
   rw [hk] at ho
   simp -dsimp [go_sem,hN,a1,hm,hk]
   rw [ho]
   exact ⟨_,.refl _,h,by simp [go_sem],by simp [go_sem],by simp,by simp [hu,go_sem],rfl,rfl⟩
  ·
   rw [hk] at ho
   simp -dsimp [go_sem,hN,a1,hm,hk]
   repeat refine ⟨by grind,?_⟩
   refine cnd ?_ ?_<;>intro h1<;>simp at h1
   ·
    simp -dsimp [go_sem,hN]
    rw [ho,varT,if_pos (by omega)]
    exact ⟨_,.refl _,h,by simp [go_sem],by simp [go_sem],by simp,by simp [hu,go_sem],rfl,rfl⟩
   ·
    simp -dsimp [go_sem,hN]
    rw [ho,varT,if_neg (by omega)]
    exact ⟨_,.refl _,h,by simp [go_sem],by simp [go_sem],by simp,by simp [hu,go_sem],rfl,rfl⟩
 simp -dsimp [go_sem,hN]
 refine qa7 (α:=List Int) e.args.length (fun n o=>((ofL vars e.args).1=(ofL vars (e.args.drop n)).1∧((ofL vars e.args).1=0→(ofL vars e.args).2=o++(ofL vars (e.args.drop n)).2))∧o.length=n) (fun n o=>⟨[(1,.mapr m),(2,.ptr h.length 0),(8,.own (h.length+1) o.length),(39,.slice (e.args.map Ex.c)),(40,I e.args.length),(41,I n)],h++[.cells e.x,.arr 3 1 (o.map iRow)]⟩) [] (by simp) ((nil_wk E _ 8 3 1 rfl).trans ?_) ?_
 · exact (Wk.mk (by simp [hh]) (by simp [go_sem]) (by simp [hu,qab hu,go_sem]) (by simp [go_sem];omega))
 intro n o hn ⟨⟨hI1,hI2⟩,hol⟩
 have hw:=qbe hn hb.2.1
 simp -dsimp [go_sem,hN]
 refine cnd ?_ ?_<;>intro hc<;>simp at hc
 ·
  have hlt:SizeOf.sizeOf e.args[n]<SizeOf.sizeOf e:=Ex.arg_lt (List.getElem_mem hc)
  rw [qag hc,ofL] at hI1 hI2
  simp -dsimp [go_sem,hN,hc]
  refine qai (c_types_of vars e.args[n] (d+1) (chkE_args hv _ (List.getElem_mem hc)) _ m (by rw [a1];exact hm)) ?_
  rintro r h' ⟨rfl,rfl⟩
  simp -dsimp [go_sem,hN]
  refine cnd ?_ ?_<;>intro h1<;>simp at h1
  ·
   simp -dsimp [go_sem,hN]
   rw [if_pos h1] at hI1
   simp only at hI1
   have ho:ofE vars e=(0,(ofE vars e.args[n]).2):=by rw [ofE_eq vars e,if_neg h0,if_pos (by rw [hI1];exact h1),hI1]
   rw [ho]
   exact ⟨_,.refl _,h,by simp [go_sem],by simp [go_sem],by simp,by simp [hu,go_sem],rfl,rfl⟩
  ·
   rw [if_neg (by simpa using h1)] at hI1 hI2
   simp only at hI1 hI2
   simp -dsimp [go_sem,hN,hw]
   refine ⟨by omega,hc,o++[(ofE vars e.args[n]).1],⟨⟨hI1,fun h2=>by rw [hI2 h2];simp⟩,by simp;omega⟩,?_⟩
   exact (Wk.mk (by simp [hh]) (by simp [go_sem]) (by simp [hu,qab hu,go_sem]) (by simp [go_sem];omega))
 rw [List.drop_eq_nil_of_le (by omega),ofL] at hI1 hI2
 simp only at hI1 hI2
 have hI3:=hI2 hI1
 rw [List.append_nil] at hI3
 have hoe:=ofE_eq vars e
 rw [if_neg h0,hI1,if_neg (by simp),hI3] at hoe
 have har:=chkE_arity hv
 simp -dsimp [go_sem,hN]
 refine cnd ?_ ?_<;>intro h1<;>simp at h1
 ·
  rw [if_pos h1] at hoe
  have h2:o.length=2:=by
   have:arity e.op=2:=by unfold arity;rw [if_neg (by omega),if_neg (by omega),if_neg (by omega)]
   omega
  obtain ⟨x,y,rfl⟩:∃ x y,o=[x,y]:=by
   match o,h2 with
   | [x,y],_=>exact ⟨x,y,rfl⟩
  simp at hoe
  simp -dsimp [go_sem,hN]
  refine qak 13 mixed (by kernel_rfl) (by kernel_rfl) ?_
  simp -dsimp [go_sem,hN,iRow]
  refine qaj (c_types_compared e.op x) (by simp) ?_
  simp -dsimp [go_sem,hN]
  repeat refine ⟨by grind,?_⟩
  refine cnd (fun h3=>?_) (fun h3=>?_)
  ·
   simp -dsimp [go_sem,hN]
   rw [hoe,if_pos (by simp at h3;grind)]
   exact ⟨_,.refl _,h,by simp [go_sem],by simp [go_sem],by simp,by simp [hu,go_sem],rfl,rfl⟩
  ·
   simp -dsimp [go_sem,hN]
   rw [hoe,if_neg (by simp at h3;grind)]
   exact ⟨_,.refl _,h,by simp [go_sem],by simp [go_sem],by simp,by simp [hu,go_sem],rfl,rfl⟩
 rw [if_neg (by omega)] at hoe
 simp -dsimp [go_sem,hN]
 refine qac (c_types_signature e.op) ?_
 simp -dsimp [go_sem,hN]
 refine qap o.length (fun n=>(o.drop n).all (fun t=>decide (t=(qcw e.op).1))=o.all (fun t=>decide (t=(qcw e.op).1))) (fun n=>⟨[(13,I (qcw e.op).1),(14,I (qcw e.op).2),(89,.slice (o.map iRow)),(90,I o.length),(91,I n)],h⟩) (by simp) ((norm_wk E _).trans ?_) ?_
 · exact (Wk.mk (by simp [hh]) (by simp [go_sem]) (by simp [hu,qab hu,go_sem]) (by simp [go_sem];try omega))
 intro n hn hJ
 have hw:=qbe hn (by omega)
 simp -dsimp [go_sem,hN]
 refine cnd ?_ ?_<;>intro hc<;>simp at hc
 ·
  rw [qag hc,List.all_cons] at hJ
  simp -dsimp [go_sem,hN,hc,iRow]
  refine cnd ?_ ?_<;>intro h3<;>simp at h3
  ·
   simp -dsimp [go_sem,hN]
   rw [hoe,if_neg (by rw [← hJ];simp [h3])]
   exact ⟨_,.refl _,h,by simp [go_sem],by simp [go_sem],by simp,by simp [hu,go_sem],rfl,rfl⟩
  ·
   simp -dsimp [go_sem,hN,hw]
   refine ⟨hc,by simpa [h3] using hJ,?_⟩
   exact (Wk.mk (by simp [hh]) (by simp [go_sem]) (by simp [hu,qab hu,go_sem]) (by simp [go_sem];try omega))
 ·
  rw [List.drop_eq_nil_of_le (by omega)] at hJ
  simp -dsimp [go_sem,hN]
  rw [hoe,if_pos (by rw [← hJ];rfl)]
  exact ⟨_,.refl _,h,by simp [go_sem],by simp [go_sem],by simp,by simp [hu,go_sem],rfl,rfl⟩
termination_by SizeOf.sizeOf e
end Go.Proofs.YtdbpbpmikpdjcaaGreatDoor

set_option maxRecDepth 4000
set_option maxHeartbeats 2000000
namespace Go.Proofs.YtdbpbpmikpdjcaaGreatDoor
open Go Go.Abs Go.Cw
def stopAV (z:Stop):AV:=.iface 127 (.agg [I z.status,I z.code,.slice [],S z.miss])
@[simp] theorem norm_stop (h:qaa) (z:Stop):(stopAV z).norm h=stopAV z:=by simp [stopAV,AV.norm,qa4]
@[simp] theorem under_stop (n:Nat) (z:Stop):(stopAV z).under n=true:=by simp [stopAV,AV.under,qat]
def endV:EV→AEnd
 | .ok v=>.ret (.agg v.c)
 | .error z=>.panic (stopAV z)
def endU:Except Stop Unit→AEnd
 | .ok _=>.ret (.tuple [])
 | .error z=>.panic (stopAV z)
theorem qa2 (code:Int) (h:qaa):ACalls Tryz.prog 150 [I code] h fun r h'=>r=.panic (stopAV (ab code))∧h'=h:=by
 refine qav Tryz.func150 Tryz.ntmps150 rfl (by kernel_rfl) rfl fun E hN hh hu hb hb' hua=>?_
 simp -dsimp [go_sem,hN]
 exact ⟨_,.refl _,h,by simp [go_sem],hwk.refl _,Nat.le_refl _,hu,rfl,rfl⟩
theorem qcm (n:Int):APure Tryz.prog 187 [I n] (.agg (vI n).c):=by
 refine qaz Tryz.func187 Tryz.ntmps187 rfl (by kernel_rfl) rfl rfl fun E h hN hh hu hb=>?_
 simp -dsimp [go_sem,hN]
 exact ⟨rfl,rfl,rfl⟩
theorem qa9 (b:Bool):APure Tryz.prog 227 [Bo b] (.agg (vB b).c):=by
 refine qaz Tryz.func227 Tryz.ntmps227 rfl (by kernel_rfl) rfl rfl fun E h hN hh hu hb=>?_
 simp -dsimp [go_sem,hN]
 refine cnd (fun h0=>?_) (fun h0=>?_)
 ·
  subst h0
  simp -dsimp [go_sem,hN]
  exact ⟨rfl,rfl,rfl⟩
 ·
  subst h0
  simp -dsimp [go_sem,hN]
  exact ⟨rfl,rfl,rfl⟩
theorem c_interp_must (b:Bool) (h:qaa):ACalls Tryz.prog 152 [Bo b] h fun r h'=>r=(if b then .ret (.tuple []) else .panic (stopAV (ab 1009)))∧h'=h:=by
 refine qav Tryz.func152 Tryz.ntmps152 rfl (by kernel_rfl) rfl fun E hN hh hu hb hb' hua=>?_
 simp -dsimp [go_sem,hN]
 refine cnd ?_ ?_<;>intro h0<;>simp at h0<;>subst h0
 ·
  simp -dsimp [go_sem,hN]
  refine qai (qa2 1009 h) ?_
  rintro r h' ⟨rfl,rfl⟩
  simp -dsimp [go_sem,hN]
  exact ⟨_,.refl _,_,by simp,hwk.refl _,Nat.le_refl _,hu,rfl,rfl⟩
 ·
  simp -dsimp [go_sem,hN]
  exact ⟨_,.refl _,_,by simp [go_sem],hwk.refl _,Nat.le_refl _,hu,rfl,rfl⟩
theorem c_interp_restart (k:qad) (h:qaa):ACalls Tryz.prog 191 [S k] h fun r h'=>r=.panic (stopAV (rst k))∧h'=h:=by
 refine qav Tryz.func191 Tryz.ntmps191 rfl (by kernel_rfl) rfl fun E hN hh hu hb hb' hua=>?_
 simp -dsimp [go_sem,hN]
 exact ⟨_,.refl _,h,by simp [go_sem],hwk.refl _,Nat.le_refl _,hu,rfl,rfl⟩
theorem c_interp_text (s:qad) (h:qaa):ACalls Tryz.prog 228 [S s] h fun r h'=>r=endV (textS s)∧h'=h:=by
 refine qav Tryz.func228 Tryz.ntmps228 rfl (by kernel_rfl) rfl fun E hN hh hu hb hb' hua=>?_
 simp -dsimp [go_sem,hN]
 refine cnd ?_ ?_<;>intro h0<;>simp at h0
 ·
  simp -dsimp [go_sem,hN]
  refine qai (qa2 1006 _) ?_
  rintro r h' ⟨rfl,rfl⟩
  simp -dsimp [go_sem,hN]
  rw [textS,if_pos (by omega)]
  exact ⟨_,.refl _,_,by simp [go_sem],by simp [go_sem],by simp,by simp [hu,go_sem],rfl,rfl⟩
 ·
  simp -dsimp [go_sem,hN]
  rw [textS,if_neg (by omega)]
  exact ⟨_,.refl _,h,by simp [go_sem],by simp [go_sem],by simp,by simp [hu,go_sem],rfl,rfl⟩
theorem qb7 (r:Int×Int) (h:qaa):ACalls Tryz.prog 225 [I r.1,I r.2] h fun x h'=>x=endV (qb9 r)∧h'=h:=by
 refine qav Tryz.func225 Tryz.ntmps225 rfl (by kernel_rfl) rfl fun E hN hh hu hb hb' hua=>?_
 simp -dsimp [go_sem,hN]
 refine cnd ?_ ?_<;>intro h0<;>simp at h0
 ·
  simp -dsimp [go_sem,hN]
  refine qac (qcm r.1) ?_
  simp -dsimp [go_sem,hN]
  rw [qb9,if_pos h0]
  exact ⟨_,.refl _,h,by simp [go_sem],by simp [go_sem],by simp,by simp [hu,go_sem],rfl,rfl⟩
 simp -dsimp [go_sem,hN]
 refine cnd ?_ ?_<;>intro h1<;>simp at h1
 ·
  simp -dsimp [go_sem,hN]
  refine qai (qa2 1002 _) ?_
  rintro r' h' ⟨rfl,rfl⟩
  simp -dsimp [go_sem,hN]
  rw [qb9,if_neg h0,if_pos h1]
  exact ⟨_,.refl _,h,by simp [go_sem],by simp [go_sem],by simp,by simp [hu,go_sem],rfl,rfl⟩
 ·
  simp -dsimp [go_sem,hN]
  refine qai (qa2 1001 _) ?_
  rintro r' h' ⟨rfl,rfl⟩
  simp -dsimp [go_sem,hN]
  rw [qb9,if_neg h0,if_neg h1]
  exact ⟨_,.refl _,h,by simp [go_sem],by simp [go_sem],by simp,by simp [hu,go_sem],rfl,rfl⟩
theorem qbn (op a b:Int) (h:qaa):ACalls Tryz.prog 231 [I op,I a,I b] h fun x h'=>x=endV (arithS op a b)∧h'=h:=by
 refine qav Tryz.func231 Tryz.ntmps231 rfl (by kernel_rfl) rfl fun E hN hh hu hb hb' hua=>?_
 simp -dsimp [go_sem,hN]
 refine cnd ?_ ?_<;>intro h0<;>simp at h0
 ·
  simp -dsimp [go_sem,hN]
  refine qac (c_num_Add a b) ?_
  simp -dsimp [go_sem,hN]
  refine qai (qb7 (numAdd a b) _) ?_
  rintro r' h' ⟨rfl,rfl⟩
  rw [arithS, if_pos h0]
  cases qb9 (numAdd a b)<;>simp -dsimp [go_sem,hN,endV]<;>exact ⟨_,.refl _,h,by simp [go_sem],by simp [go_sem],by simp,by simp [hu,go_sem],rfl,rfl⟩
 simp -dsimp [go_sem,hN]
 refine cnd ?_ ?_<;>intro h1<;>simp at h1
 ·
  simp -dsimp [go_sem,hN]
  refine qac (c_num_Sub a b) ?_
  simp -dsimp [go_sem,hN]
  refine qai (qb7 (numSub a b) _) ?_
  rintro r' h' ⟨rfl,rfl⟩
  rw [arithS,if_neg h0,if_pos h1]
  cases qb9 (numSub a b)<;>simp -dsimp [go_sem,hN,endV]<;>exact ⟨_,.refl _,h,by simp [go_sem],by simp [go_sem],by simp,by simp [hu,go_sem],rfl,rfl⟩
 simp -dsimp [go_sem,hN]
 refine cnd ?_ ?_<;>intro h2<;>simp at h2
 ·
  simp -dsimp [go_sem,hN]
  refine qac (c_num_Mul a b) ?_
  simp -dsimp [go_sem,hN]
  refine qai (qb7 (numMul a b) _) ?_
  rintro r' h' ⟨rfl,rfl⟩
  rw [arithS,if_neg h0,if_neg h1,if_pos h2]
  cases qb9 (numMul a b)<;>simp -dsimp [go_sem,hN,endV]<;>exact ⟨_,.refl _,h,by simp [go_sem],by simp [go_sem],by simp,by simp [hu,go_sem],rfl,rfl⟩
 simp -dsimp [go_sem,hN]
 refine cnd ?_ ?_<;>intro h3<;>simp at h3
 ·
  simp -dsimp [go_sem,hN]
  refine qac (c_num_Div a b) ?_
  simp -dsimp [go_sem,hN]
  refine qai (qb7 (numDiv a b) _) ?_
  rintro r' h' ⟨rfl,rfl⟩
  rw [arithS,if_neg h0,if_neg h1,if_neg h2,if_pos h3]
  cases qb9 (numDiv a b)<;>simp -dsimp [go_sem,hN,endV]<;>exact ⟨_,.refl _,h,by simp [go_sem],by simp [go_sem],by simp,by simp [hu,go_sem],rfl,rfl⟩
 simp -dsimp [go_sem,hN]
 refine qac (c_num_Mod a b) ?_
 simp -dsimp [go_sem,hN]
 refine qai (qb7 (numMod a b) _) ?_
 rintro r' h' ⟨rfl,rfl⟩
 rw [arithS,if_neg h0,if_neg h1,if_neg h2,if_neg h3]
 cases qb9 (numMod a b)<;>simp -dsimp [go_sem,hN,endV]<;>exact ⟨_,.refl _,h,by simp [go_sem],by simp [go_sem],by simp,by simp [hu,go_sem],rfl,rfl⟩
theorem qck (b:Bool) (h:qaa):ACalls Tryz.prog 152 [Bo b] h fun r h'=>((b=true∧r=.ret (.tuple []))∨(b=false∧r=.panic (stopAV (ab 1009))))∧h'=h :=
 (c_interp_must b h).mono (by
  rintro r h' ⟨rfl,rfl⟩
  cases b
  · exact ⟨.inr ⟨rfl,rfl⟩,rfl⟩
  · exact ⟨.inl ⟨rfl,rfl⟩,rfl⟩)
theorem c_interp_compare (op:Int) (a b:V) (h:qaa):ACalls Tryz.prog 232 [I op,.agg a.c,.agg b.c] h fun x h'=>x=endV (compS op a b)∧h'=h:=by
 refine qav Tryz.func232 Tryz.ntmps232 rfl (by kernel_rfl) rfl fun E hN hh hu hb hb' hua=>?_
 simp -dsimp [go_sem,hN]
 repeat refine ⟨by grind,?_⟩
 refine qai (qck _ _) ?_
 rintro r h' ⟨⟨hm,rfl⟩ | ⟨hm,rfl⟩,rfl⟩<;>simp at hm
 rotate_left
 ·
  simp -dsimp [go_sem,hN]
  rw [compS,if_neg (by grind)]
  exact ⟨_,.refl _,h,by simp [go_sem],by simp [go_sem],by simp,by simp [hu,go_sem],rfl,rfl⟩
 rw [compS,if_pos (by grind)]
 simp -dsimp [go_sem,hN]
 refine qac (c_value_Compare a b) ?_
 simp -dsimp [go_sem,hN]
 refine cnd ?_ ?_<;>intro h0<;>simp at h0
 ·
  simp -dsimp [go_sem,hN]
  refine qac (qa9 (decide (cmpV a b=0))) ?_
  simp -dsimp [go_sem,hN]
  rw [cmpBy, if_pos h0]
  exact ⟨_,.refl _,h,by simp [go_sem],by simp [go_sem],by simp,by simp [hu,go_sem],rfl,rfl⟩
 simp -dsimp [go_sem,hN]
 refine cnd ?_ ?_<;>intro h1<;>simp at h1
 ·
  simp -dsimp [go_sem,hN]
  refine qac (qa9 (!decide (cmpV a b=0))) ?_
  simp -dsimp [go_sem,hN]
  rw [cmpBy,if_neg h0,if_pos h1]
  exact ⟨_,.refl _,h,by simp [go_sem],by simp [go_sem],by simp,by simp [hu,go_sem],rfl,rfl⟩
 simp -dsimp [go_sem,hN]
 refine cnd ?_ ?_<;>intro h2<;>simp at h2
 ·
  simp -dsimp [go_sem,hN]
  refine qac (qa9 (decide (cmpV a b<0))) ?_
  simp -dsimp [go_sem,hN]
  rw [cmpBy,if_neg h0,if_neg h1,if_pos h2]
  exact ⟨_,.refl _,h,by simp [go_sem],by simp [go_sem],by simp,by simp [hu,go_sem],rfl,rfl⟩
 simp -dsimp [go_sem,hN]
 refine cnd ?_ ?_<;>intro h3<;>simp at h3
 ·
  simp -dsimp [go_sem,hN]
  refine qac (qa9 (decide (cmpV a b≤0))) ?_
  simp -dsimp [go_sem,hN]
  rw [cmpBy,if_neg h0,if_neg h1,if_neg h2,if_pos h3]
  exact ⟨_,.refl _,h,by simp [go_sem],by simp [go_sem],by simp,by simp [hu,go_sem],rfl,rfl⟩
 simp -dsimp [go_sem,hN]
 refine cnd ?_ ?_<;>intro h4<;>simp at h4
 ·
  simp -dsimp [go_sem,hN]
  refine qac (qa9 (decide (0<cmpV a b))) ?_
  simp -dsimp [go_sem,hN]
  rw [cmpBy,if_neg h0,if_neg h1,if_neg h2,if_neg h3,if_pos h4]
  exact ⟨_,.refl _,h,by simp [go_sem],by simp [go_sem],by simp,by simp [hu,go_sem],rfl,rfl⟩
 simp -dsimp [go_sem,hN]
 refine qac (qa9 (decide (0≤cmpV a b))) ?_
 simp -dsimp [go_sem,hN]
 rw [cmpBy,if_neg h0,if_neg h1,if_neg h2,if_neg h3,if_neg h4]
 exact ⟨_,.refl _,h,by simp [go_sem],by simp [go_sem],by simp,by simp [hu,go_sem],rfl,rfl⟩
theorem c_interp_binary (op:Int) (a b:V) (h:qaa) (hS:a.s.size+b.s.size≤68719476736):ACalls Tryz.prog 189 [I op,.agg a.c,.agg b.c] h fun x h'=>x=endV (binS op a b)∧h'=h:=by
 refine qav Tryz.func189 Tryz.ntmps189 rfl (by kernel_rfl) rfl fun E hN hh hu hb hb' hua=>?_
 simp -dsimp [go_sem,hN]
 refine cnd ?_ ?_<;>intro h0<;>simp at h0
 ·
  simp -dsimp [go_sem,hN,decide_eq_true h0]
  repeat refine ⟨by grind,?_⟩
  refine qai (qck _ _) ?_
  rintro r h' ⟨⟨hm,rfl⟩ | ⟨hm,rfl⟩,rfl⟩<;>simp at hm
  ·
   simp -dsimp [go_sem,hN]
   refine qai (qbn op a.n b.n _) ?_
   rintro r' h' ⟨rfl,rfl⟩
   rw [binS,if_pos (by omega),if_pos (by grind)]
   cases arithS op a.n b.n<;>simp -dsimp [go_sem,hN,endV]<;>exact ⟨_,.refl _,h,by simp [go_sem],by simp [go_sem],by simp,by simp [hu,go_sem],rfl,rfl⟩
  ·
   simp -dsimp [go_sem,hN]
   rw [binS,if_pos (by omega),if_neg (by grind)]
   exact ⟨_,.refl _,h,by simp [go_sem],by simp [go_sem],by simp,by simp [hu,go_sem],rfl,rfl⟩
 simp -dsimp [go_sem,hN]
 refine cnd ?_ ?_<;>intro h1<;>simp at h1
 ·
  simp -dsimp [go_sem,hN,decide_eq_true h1]
  repeat refine ⟨by grind,?_⟩
  refine qai (qck _ _) ?_
  rintro r h' ⟨⟨hm,rfl⟩ | ⟨hm,rfl⟩,rfl⟩<;>simp at hm
  ·
   simp -dsimp [go_sem,hN]
   refine qai (qbn op a.n b.n _) ?_
   rintro r' h' ⟨rfl,rfl⟩
   rw [binS,if_pos (by omega),if_pos (by grind)]
   cases arithS op a.n b.n<;>simp -dsimp [go_sem,hN,endV]<;>exact ⟨_,.refl _,h,by simp [go_sem],by simp [go_sem],by simp,by simp [hu,go_sem],rfl,rfl⟩
  ·
   simp -dsimp [go_sem,hN]
   rw [binS,if_pos (by omega),if_neg (by grind)]
   exact ⟨_,.refl _,h,by simp [go_sem],by simp [go_sem],by simp,by simp [hu,go_sem],rfl,rfl⟩
 simp -dsimp [go_sem,hN]
 refine cnd ?_ ?_<;>intro h2<;>simp at h2
 ·
  simp -dsimp [go_sem,hN,decide_eq_true h2]
  repeat refine ⟨by grind,?_⟩
  refine qai (qck _ _) ?_
  rintro r h' ⟨⟨hm,rfl⟩ | ⟨hm,rfl⟩,rfl⟩<;>simp at hm
  ·
   simp -dsimp [go_sem,hN]
   refine qai (qbn op a.n b.n _) ?_
   rintro r' h' ⟨rfl,rfl⟩
   rw [binS,if_pos (by omega),if_pos (by grind)]
   cases arithS op a.n b.n<;>simp -dsimp [go_sem,hN,endV]<;>exact ⟨_,.refl _,h,by simp [go_sem],by simp [go_sem],by simp,by simp [hu,go_sem],rfl,rfl⟩
  ·
   simp -dsimp [go_sem,hN]
   rw [binS,if_pos (by omega),if_neg (by grind)]
   exact ⟨_,.refl _,h,by simp [go_sem],by simp [go_sem],by simp,by simp [hu,go_sem],rfl,rfl⟩
 simp -dsimp [go_sem,hN]
 refine cnd ?_ ?_<;>intro h3<;>simp at h3
 ·
  simp -dsimp [go_sem,hN,decide_eq_true h3]
  repeat refine ⟨by grind,?_⟩
  refine qai (qck _ _) ?_
  rintro r h' ⟨⟨hm,rfl⟩ | ⟨hm,rfl⟩,rfl⟩<;>simp at hm
  ·
   simp -dsimp [go_sem,hN]
   refine qai (qbn op a.n b.n _) ?_
   rintro r' h' ⟨rfl,rfl⟩
   rw [binS,if_pos (by omega),if_pos (by grind)]
   cases arithS op a.n b.n<;>simp -dsimp [go_sem,hN,endV]<;>exact ⟨_,.refl _,h,by simp [go_sem],by simp [go_sem],by simp,by simp [hu,go_sem],rfl,rfl⟩
  ·
   simp -dsimp [go_sem,hN]
   rw [binS,if_pos (by omega),if_neg (by grind)]
   exact ⟨_,.refl _,h,by simp [go_sem],by simp [go_sem],by simp,by simp [hu,go_sem],rfl,rfl⟩
 simp -dsimp [go_sem,hN]
 refine cnd ?_ ?_<;>intro h4<;>simp at h4
 ·
  simp -dsimp [go_sem,hN]
  repeat refine ⟨by grind,?_⟩
  refine qai (qck _ _) ?_
  rintro r h' ⟨⟨hm,rfl⟩ | ⟨hm,rfl⟩,rfl⟩<;>simp at hm
  ·
   simp -dsimp [go_sem,hN]
   refine qai (qbn op a.n b.n _) ?_
   rintro r' h' ⟨rfl,rfl⟩
   rw [binS,if_pos (by omega),if_pos (by grind)]
   cases arithS op a.n b.n<;>simp -dsimp [go_sem,hN,endV]<;>exact ⟨_,.refl _,h,by simp [go_sem],by simp [go_sem],by simp,by simp [hu,go_sem],rfl,rfl⟩
  ·
   simp -dsimp [go_sem,hN]
   rw [binS,if_pos (by omega),if_neg (by grind)]
   exact ⟨_,.refl _,h,by simp [go_sem],by simp [go_sem],by simp,by simp [hu,go_sem],rfl,rfl⟩
 simp -dsimp [go_sem,hN]
 refine cnd ?_ ?_<;>intro h5<;>simp at h5
 ·
  simp -dsimp [go_sem,hN]
  repeat refine ⟨by grind,?_⟩
  refine qai (qck _ _) ?_
  rintro r h' ⟨⟨hm,rfl⟩ | ⟨hm,rfl⟩,rfl⟩<;>simp at hm
  rotate_left
  ·
   simp -dsimp [go_sem,hN]
   rw [binS,if_neg (by omega),if_pos h5,if_neg (by grind)]
   exact ⟨_,.refl _,h,by simp [go_sem],by simp [go_sem],by simp,by simp [hu,go_sem],rfl,rfl⟩
  rw [binS,if_neg (by omega),if_pos h5,if_pos (by grind)]
  simp -dsimp [go_sem,hN]
  repeat refine ⟨by grind,?_⟩
  refine qac (qa9 (decide (a.n=1)&&decide (b.n=1))) ?_
  simp -dsimp [go_sem,hN]
  exact ⟨_,.refl _,h,by simp [go_sem],by simp [go_sem],by simp,by simp [hu,go_sem],rfl,rfl⟩
 simp -dsimp [go_sem,hN]
 refine cnd ?_ ?_<;>intro h6<;>simp at h6
 ·
  simp -dsimp [go_sem,hN]
  repeat refine ⟨by grind,?_⟩
  refine qai (qck _ _) ?_
  rintro r h' ⟨⟨hm,rfl⟩ | ⟨hm,rfl⟩,rfl⟩<;>simp at hm
  rotate_left
  ·
   simp -dsimp [go_sem,hN]
   rw [binS,if_neg (by omega),if_neg h5,if_pos h6,if_neg (by grind)]
   exact ⟨_,.refl _,h,by simp [go_sem],by simp [go_sem],by simp,by simp [hu,go_sem],rfl,rfl⟩
  rw [binS,if_neg (by omega),if_neg h5,if_pos h6,if_pos (by grind)]
  simp -dsimp [go_sem,hN]
  repeat refine ⟨by grind,?_⟩
  refine qac (qa9 (decide (a.n=1)||decide (b.n=1))) ?_
  simp -dsimp [go_sem,hN]
  exact ⟨_,.refl _,h,by simp [go_sem],by simp [go_sem],by simp,by simp [hu,go_sem],rfl,rfl⟩
 simp -dsimp [go_sem,hN]
 refine cnd ?_ ?_<;>intro h7<;>simp at h7
 ·
  simp -dsimp [go_sem,hN]
  repeat refine ⟨by grind,?_⟩
  refine qai (qck _ _) ?_
  rintro r h' ⟨⟨hm,rfl⟩ | ⟨hm,rfl⟩,rfl⟩<;>simp at hm
  rotate_left
  ·
   simp -dsimp [go_sem,hN]
   rw [binS,if_neg (by omega),if_neg h5,if_neg h6,if_pos h7,if_neg (by grind)]
   exact ⟨_,.refl _,h,by simp [go_sem],by simp [go_sem],by simp,by simp [hu,go_sem],rfl,rfl⟩
  rw [binS,if_neg (by omega),if_neg h5,if_neg h6,if_pos h7,if_pos (by grind)]
  simp -dsimp [go_sem,hN]
  refine ⟨hS,?_⟩
  refine qai (c_interp_text (a.s++b.s) _) ?_
  rintro r' h' ⟨rfl,rfl⟩
  cases textS (a.s++b.s)<;>simp -dsimp [go_sem,hN,endV]<;>exact ⟨_,.refl _,h,by simp [go_sem],by simp [go_sem],by simp,by simp [hu,go_sem],rfl,rfl⟩
 simp -dsimp [go_sem,hN]
 refine qai (c_interp_compare op a b _) ?_
 rintro r' h' ⟨rfl,rfl⟩
 rw [binS,if_neg (by omega),if_neg h5,if_neg h6,if_neg h7]
 cases compS op a b<;>simp -dsimp [go_sem,hN,endV]<;>exact ⟨_,.refl _,h,by simp [go_sem],by simp [go_sem],by simp,by simp [hu,go_sem],rfl,rfl⟩
end Go.Proofs.YtdbpbpmikpdjcaaGreatDoor

set_option maxRecDepth 4000
namespace Go.Proofs.YtdbpbpmikpdjcaaGreatDoor
open Go Go.Abs Go.Cw Go.Shelf
def renF:Ren:=⟨fun
 | 129=>309 | 173=>254 | 246=>284 | 283=>299 | 284=>300 | 285=>301 | 286=>302
 | 317=>308 | 318=>310 | 319=>311 | 320=>312 | 337=>314 | 338=>315 | x=>x,
 fun | 0=>0 | 2=>2 | 3=>3 | 4=>4 | 5=>5 | 9=>9 | 20=>20 | 37=>288 | 46=>271 | 51=>299 | 53=>219 | 171=>290 | 173=>293 | 212=>298 | 213=>300 | 232=>304 | 233=>305 | x=>x,
 fun | 17=>1 | 18=>2 | 19=>3 | x=>x⟩
theorem laysF0:Lays.n173 Tryz.prog renF:=by
 constructor<;>first | exact fun _=>by kernel_rfl | kernel_rfl
theorem laysF:LaysM.n173 Tryz.prog renF:={ laysF0 with i0:=by kernel_rfl,i2:=by kernel_rfl,i3:=by kernel_rfl,i4:=by kernel_rfl,i5:=by kernel_rfl,i9:=by kernel_rfl,i20:=by kernel_rfl,i37:=by kernel_rfl,i46:=by kernel_rfl,i51:=by kernel_rfl,i53:=by kernel_rfl,i171:=by kernel_rfl,i173:=by kernel_rfl,i212:=by kernel_rfl,i232:=by kernel_rfl,i233:=by kernel_rfl,m17:=by kernel_rfl,m18:=by kernel_rfl,m19:=by kernel_rfl }
def tabV:Array Value:=(Lib.pow10Tab.map fun z=>Value.int .u64 z).toArray
def tabO (T:TypeId) (x:Nat×Nat):AObj:=.raw 1 (fun _=>.cells tabV T x) []
def qbh (n:Int):qad:=⟨(Lib.itoa n).toArray⟩
theorem hsim_grow {c:Ctx} {h:qaa} {w:World} (hs:HSim c h w) (k:Nat) (os:Array Obj):HSim c h (Sort.grow (w.drewN k) os)∧(⟨0,c,h,w⟩:Ent).ok c h (Sort.grow (w.drewN k) os):=by
 have hw:∀ b,b<w.heap.size→(Sort.grow (w.drewN k) os).heap[b]?=w.heap[b]?:=fun b hb=>by
  show (w.heap++os)[b]?=_
  rw [Array.getElem?_append_left hb]
 refine ⟨hs.ext hw (.refl c) (fun _ _=>rfl) (fun _ _ _ h=>.inl h) hs.dom,?_⟩
 exact (Ent.ok.refl 0 hs).ext' hs hw (.refl c) (fun _=>rfl) rfl rfl rfl (by show _≤(w.heap++os).size;simp) (fun _ _ _ h=>.inl h)
theorem c_FormatInt (n:Int) (hn:i64 n) (h:qaa) (g:Nat) {T:TypeId} {x:Nat×Nat} (hg:h[g]?=some (tabO T x)) (hsz:(qbh n).size≤68719476736) :
  ACalls Tryz.prog 254 [I n,I 10] h fun r h'=>r=.ret (S (qbh n))∧h'=h:=by
 refine ⟨⟨_,laysF.f173,rfl,rfl⟩,fun c w vs hs ha=>?_⟩
 obtain ⟨hb,us,hv,_⟩:=hs.obj _ _ hg
 have htab:Lib.TabIs Tryz.prog w "internal/strconv.uint64pow10" .u64 Lib.pow10Tab:=by
  unfold Lib.TabIs World.var?
  rw [laysF.m17]
  simp only [Option.bind_some]
  show (match w.heap[1]? with | some (.cells cs _ _)=>some cs | _=>none)=_
  rw [hv]
  rfl
 have he:vs = #[.int .i64 n,.int .i64 10]:=relL_vals (l:=[.int .i64 n,.int .i64 10]) ha
 rw [he]
 refine (Any.strconv_FormatInt_10 laysF n hn.1 hn.2 w htab).mono ?_
 rintro e w' ⟨rfl,k,os,rfl⟩
 obtain ⟨g1,g2⟩:=hsim_grow hs k os
 exact ⟨_,h,c,⟨rfl,rfl⟩,.val _ (by simpa [strOk] using hsz),g1,g2⟩
theorem c_num_Format (n:Int) (hn:i64 n) (h:qaa) (g:Nat) {T:TypeId} {x:Nat×Nat} (hg:h[g]?=some (tabO T x)) :
  ACalls Tryz.prog 229 [I n] h fun r h'=>r=.ret (S (qbh n))∧h'=h:=by
 have hsz:(qbh n).size≤68719476736:=by
  have:=Lib.itoa_length_le n hn.1 hn.2
  show (Lib.itoa n).length≤_
  omega
 refine qav Tryz.func229 Tryz.ntmps229 rfl (by kernel_rfl) rfl fun E hN hh hu hb hb' hua=>?_
 simp -dsimp [go_sem,hN]
 refine qai (c_FormatInt n hn h g hg hsz) ?_
 rintro r h' ⟨rfl,rfl⟩
 simp -dsimp [go_sem,hN]
 exact ⟨_,.refl _,_,rfl,hwk.refl _,Nat.le_refl _,hu,rfl,rfl⟩
end Go.Proofs.YtdbpbpmikpdjcaaGreatDoor

set_option maxRecDepth 4000
namespace Go.Proofs.YtdbpbpmikpdjcaaGreatDoor
open Go Go.Abs Go.Cw Go.Shelf Go.Lib
def renI:Ren:=⟨fun | 17=>305 | 22=>235 | 29=>264 | 30=>265 | 36=>289 | x=>x,fun | 0=>0 | 3=>3 | 4=>4 | 9=>9 | 24=>37 | x=>x,fun x=>x⟩
theorem laysI:Lays2.n22 Tryz.prog renI:=by
 constructor<;>first | exact fun _=>by kernel_rfl | kernel_rfl
theorem c_cmpNaN_str (s:qad):APure Tryz.prog 288 [S s] (Bo false):=by
 refine qaz Tryz.func288 Tryz.ntmps288 rfl (by kernel_rfl) rfl rfl fun E h hN hh hu hb=>?_
 simp -dsimp [go_sem,hN]
theorem c_isNaN_str (s:qad):APure Tryz.prog 263 [S s] (Bo false):=by
 refine qaz Tryz.func263 Tryz.ntmps263 rfl (by kernel_rfl) rfl rfl fun E h hN hh hu hb=>?_
 simp -dsimp [go_sem,hN]
theorem c_less_str (a b:qad):APure Tryz.prog 262 [S a,S b] (Bo (sLt a b)):=by
 refine qaz Tryz.func262 Tryz.ntmps262 rfl (by kernel_rfl) rfl rfl fun E h hN hh hu hb=>?_
 simp -dsimp [go_sem,hN]
 refine qac (c_cmpNaN_str a) ?_
 simp -dsimp [go_sem,hN]
 refine tgcall_false ?_
 simp -dsimp [go_sem,hN]
theorem c_BinarySearch (l:List qad) (k:qad) (hs:ascS l):APure Tryz.prog 234 [.slice (l.map qbg),S k] (.tuple [I (posS k l),Bo (decide (l[posS k l]?=some k))]):=by
 refine qaz Tryz.func234 Tryz.ntmps234 rfl (by kernel_rfl) rfl rfl fun E h hN hh hu hb=>?_
 simp [go_sem] at hb
 have hp:=posS_le k l
 simp -dsimp [go_sem,hN]
 refine awp_loopM (α:=Nat×Nat) (fun x=>x.1≤posS k l∧posS k l≤x.2∧x.2≤l.length) (fun x=>⟨[(0,.slice (l.map qbg)),(1,S k),(6,I l.length),(7,I x.1),(8,I x.2)],h⟩) (fun x=>x.2 - x.1) (0,l.length) ⟨by simp,hp,by simp⟩ (Wk.mk (by simp [hh]) (by simp [go_sem]) (by simp [hu,qab hu,go_sem]) (by simp [go_sem])) ?_
 rintro ⟨i,j⟩ ⟨h1,h2,h3⟩
 simp only at h1 h2 h3
 simp -dsimp [go_sem,hN]
 refine cnd ?_ ?_<;>intro hc<;>simp at hc
 ·
  have hm:IntKind.i64.wrap ((IntKind.u64.wrap (IntKind.i64.wrap ((i:Int)+j))).fdiv 2)=(((i+j) / 2:Nat):Int):=by
   have h0:=hb.1.1
   have e0:IntKind.i64.wrap ((i:Int)+j)=(i:Int)+j:=wrapI (by omega) (by omega)
   rw [e0]
   have:IntKind.u64.wrap ((i:Int)+j)=(i:Int)+j:=by
    simp only [IntKind.wrap,IntKind.bits,IntKind.signed]
    simp
    omega
   rw [this]
   have e1:((i:Int)+j).fdiv 2=(((i+j) / 2:Nat):Int):=by
    rw [Int.fdiv_eq_ediv_of_nonneg _ (by omega)]
    omega
   rw [e1,wrapI (by omega) (by omega)]
  have hlt:(i+j) / 2<l.length:=by omega
  have hi':=posS_lt (k:=k) hs ((i+j) / 2) hlt
  generalize hq:(i+j) / 2=q at hm hlt hi'
  have hw:IntKind.i64.wrap ((q:Int)+1)=((q+1:Nat):Int):=by have h0:=hb.1.1;rw [wrapI (by omega) (by omega)];omega
  simp -dsimp [go_sem,hN,hm,hlt,qbg]
  refine qac (c_less_str l[q] k) ?_
  simp -dsimp [go_sem,hN]
  refine cnd (fun hc2=>?_) (fun hc2=>?_)
  ·
   simp -dsimp [go_sem,hN,hw]
   exact ⟨q+1,j,⟨by have:=hi'.2 hc2;omega,h2,h3⟩,by omega,(Wk.mk (by simp [hh]) (by simp [go_sem]) (by simp [hu,qab hu,go_sem]) (by simp [go_sem]))⟩
  ·
   simp -dsimp [go_sem,hN]
   refine ⟨i,q,⟨h1,?_,by omega⟩,by omega,(Wk.mk (by simp [hh]) (by simp [go_sem]) (by simp [hu,qab hu,go_sem]) (by simp [go_sem]))⟩
   rcases Nat.lt_or_ge q (posS k l) with h5 | h5
   · have:=hi'.1 h5;rw [this] at hc2;cases hc2
   · exact h5
 ·
  have hi:i=posS k l:=by omega
  subst hi
  by_cases hlt:posS k l<l.length
  ·
   simp -dsimp [go_sem,hN,hlt,qbg]
   repeat refine ⟨by grind,?_⟩
   refine qaj (c_isNaN_str _) (by simp) ?_
   simp -dsimp [go_sem,hN]
   refine tgcall_false ?_
   simp -dsimp [go_sem,hN]
   rw [List.getElem?_eq_getElem hlt]
   simp
  ·
   have hd:decide (posS k l<l.length)=false:=by simpa using hlt
   have hnone:l[posS k l]?=none:=List.getElem?_eq_none (by omega)
   simp -dsimp [go_sem,hN,hd,hnone]
   refine tgcall_false ?_
   simp -dsimp [go_sem,hN]
   refine tgcall_false ?_
   simp -dsimp [go_sem,hN]
   rw [hnone];simp
theorem c_with (h:qaa) (i:Nat) (l:List qad) (hi:h[i]?=some (.uarr 9 1 (l.map qbg))) (hlen:l.length+1≤68719476736) (key:qad) (ha:ascS l) :
  ACalls Tryz.prog 192 [.own i l.length,S key] h fun r h'=>r=.ret (.own i (withS l key).length)∧h'=h.set i (.uarr 9 1 ((withS l key).map qbg)):=by
 refine acalls_intro Tryz.func192 rfl (by kernel_rfl) (by simp [Tryz.ntmps192]) ?_
 intro E hN hh hu
 rw [Tryz.ntmps192] at hN
 have hil:i<h.length:=(List.getElem?_eq_some_iff.1 hi).1
 have hn:(l.map qbg).length=l.length:=by simp
 have hB:=c_BinarySearch l key ha
 refine qa6 (awp_ops ?_)
 simp [go_sem,hN]
 refine qa6 (awp_opsB [_,_] ?_)
 simp [go_sem,hN,borStep,borV,hi,hn]
 refine ⟨_,hB,by simp [flatB],?_⟩
 simp [go_sem,hN]
 refine qa6 (qa6 (awp_ops ?_))
 simp [go_sem,hN]
 have hle:=posS_le key l
 rcases hc:decide (l[posS key l]?=some key) with _ | _
 ·
  have hw:withS l key=l.take (posS key l)++key::l.drop (posS key l):=by rw [withS,if_neg (by simpa using hc)]
  refine awp_cond (b:=false) (by simpa [go_sem] using hc) (fun h=>by cases h) (fun _=>?_)
  refine awp_skip ?_
  simp
  refine qa6 (awp_opsT [_,_,_] _ ?_)
  simp [go_sem,hN]
  intro c a w s k
  refine wp_insert laysI s k (T:=37) (x:=.tmp 17) (xa:=.tmp 15) (xb:=.tmp 16) (f:=.func 235) (d1:=18) rfl rfl rfl (by omega) (by simp [dstOk,hN]) rfl rfl (by simp [renI]) (by simp [renI]) (by simp [renI]) (by simp [go_sem]) (key:=key) (by simp [go_sem]) (i:=i) (n:=l.length) (by simp [go_sem]) (pos:=posS key l) (by simp [go_sem]) (by simp) (by simp) rfl hi hn hle hlen
   ⟨_,Tryz.func235,by kernel_rfl,by kernel_rfl⟩ fun c' a' w' s' k'=>?_
  refine qbo _ [_,_,_,_,_] _ rfl ?_ c' a' w' s' k'
  simp [go_sem,hN]
  have hl':(withS l key).length=l.length+1:=by rw [hw];simp;omega
  refine awp_ret ⟨⟨trivial,trivial⟩,.own i (l.length+1),_,?_,?_,hwk.refl _,?_,?_,by rw [hl'],by rw [hw];simp [List.map_take,List.map_drop,qbg,renI]⟩
  · simp [go_sem,hil]
  · simp [AV.under,hil]
  · simp
  ·
   rw [hUnder_iff] at hu ⊢
   intro o ho
   simp only [List.length_set]
   rcases List.mem_or_eq_of_mem_set ho with ho | rfl
   · exact hu o ho
   · rfl
 ·
  have hw:withS l key=l:=by rw [withS,if_pos (by simpa using hc)]
  refine awp_cond (b:=true) (by simpa [go_sem] using hc) (fun _=>?_) (fun h=>by cases h)
  refine qa6 (awp_ops ?_)
  simp [go_sem,hN]
  rw [hw,set_same hi]
  refine awp_ret ⟨⟨trivial,trivial⟩,.own i l.length,h,by simp [go_sem,hi],by simp [AV.under,hil],hwk.refl _,Nat.le_refl _,hu,rfl,rfl⟩
end Go.Proofs.YtdbpbpmikpdjcaaGreatDoor

set_option maxRecDepth 4000
set_option maxHeartbeats 2000000
namespace Go.Proofs.YtdbpbpmikpdjcaaGreatDoor
open Go Go.Abs Go.Cw
attribute [local go_sem] mC
variable {C:Cfg} {tT:TypeId} {tx:Nat×Nat} {g m v o io ir ip:Nat} {K:MQ→qaa} {n0:Nat}
abbrev MHs (C:Cfg) (tT:TypeId) (tx:Nat×Nat) (g m v o io ir ip:Nat) (K:MQ→qaa) (n0:Nat):Prop:=MH C (tabO tT tx) 77 9 g m v o io ir ip K n0
theorem c_machine_tick (Y:MHs C tT tx g m v o io ir ip K n0) (s:MS) (hst:s.steps≤100000) :
  ACalls Tryz.prog 124 [.ptr m 0] (K s.q) fun r h'=>r=endU (tickS s).1∧h'=K (tickS s).2.q:=by
 refine qav Tryz.func124 Tryz.ntmps124 rfl (by kernel_rfl) rfl fun E hN hh hu hb hb' hua=>?_
 have hw:IntKind.i64.wrap ((s.steps:Int)+1)=(s.steps:Int)+1:=wrapI (by omega) (by omega)
 simp -dsimp [go_sem,hN,Y.lm,hw,Y.smx]
 refine cnd ?_ ?_<;>intro h0<;>simp at h0
 ·
  simp -dsimp [go_sem,hN]
  refine qai (qa2 1008 _) ?_
  rintro r h' ⟨rfl,rfl⟩
  simp -dsimp [go_sem,hN]
  rw [tickS,if_pos (by omega)]
  exact ⟨_,.refl _,K (tickS s).2.q,by simp [go_sem],by first | exact hwk.refl _ | exact hwk.app0 _ | simp [hwk.refl],by simp [Y.len],Y.und' _,by first | rfl | simp,by first | rfl | simp [MS.q]⟩
 ·
  simp -dsimp [go_sem,hN]
  rw [tickS,if_neg (by omega)]
  exact ⟨_,.refl _,K (tickS s).2.q,by simp [go_sem],by first | exact hwk.refl _ | exact hwk.app0 _ | simp [hwk.refl],by simp [Y.len],Y.und' _,by first | rfl | simp,by first | rfl | simp [MS.q]⟩
theorem c_machine_emit (Y:MHs C tT tx g m v o io ir ip K n0) (s:MS) (x:V) (hl:s.out.length≤100) :
  ACalls Tryz.prog 155 [.ptr m 0,.agg x.c] (K s.q) fun r h'=>r=endU (emitS x s).1∧h'=K (emitS x s).2.q:=by
 refine qav Tryz.func155 Tryz.ntmps155 rfl (by kernel_rfl) rfl fun E hN hh hu hb hb' hua=>?_
 simp -dsimp [go_sem,hN,Y.lm',Y.lio']
 refine cnd ?_ ?_<;>intro h0<;>simp at h0
 ·
  simp -dsimp [go_sem,hN]
  refine qai (qa2 1007 _) ?_
  rintro r h' ⟨rfl,rfl⟩
  simp -dsimp [go_sem,hN]
  rw [emitS,if_pos (by omega)]
  exact ⟨_,.refl _,K s.q,by simp [go_sem],by first | exact hwk.refl _ | exact hwk.app0 _ | simp [hwk.refl],by simp [Y.len],Y.und' _,by first | rfl | simp,by first | rfl | simp [MS.q]⟩
 simp -dsimp [go_sem,hN]
 refine awp_drawP 10 9 [0] mixed (by kernel_rfl) ?_
 simp -dsimp [go_sem,hN,Y.lm',Y.lio',Y.len,Y.loc,Y.sioA,Y.smx']
 refine ⟨by omega,?_⟩
 rw [emitS,if_neg (by omega)]
 exact ⟨_,.refl _,K ⟨s.vars,s.own,s.out++[x],s.reads,s.puts,s.out.length+1,s.reads.length,s.puts.length,s.steps⟩,by simp [go_sem],by first | exact hwk.refl _ | exact hwk.app0 _ | simp [hwk.refl],by simp [Y.len],Y.und' _,by first | rfl | simp,by first | rfl | simp [MS.q]⟩
theorem c_machine_fetch (Y:MHs C tT tx g m v o io ir ip K n0) (s:MS) (key:qad) (ha:ascS s.reads) (hl:s.reads.length+1≤68719476736) :
  ACalls Tryz.prog 230 [.ptr m 0,S key] (K s.q) fun r h'=>r=endV (qbw C key s).1∧h'=K (qbw C key s).2.q:=by
 refine qav Tryz.func230 Tryz.ntmps230 rfl (by kernel_rfl) rfl fun E hN hh hu hb hb' hua=>?_
 simp -dsimp [go_sem,hN]
 refine qac (c_keys_Valid key) ?_
 simp -dsimp [go_sem,hN]
 refine cnd ?_ ?_<;>intro h0<;>simp at h0
 ·
  simp -dsimp [go_sem,hN]
  refine qai (qa2 1004 _) ?_
  rintro r h' ⟨rfl,rfl⟩
  simp -dsimp [go_sem,hN]
  rw [qbw,if_pos h0]
  exact ⟨_,.refl _,K s.q,by simp [go_sem],by first | exact hwk.refl _ | exact hwk.app0 _ | simp [hwk.refl],by simp [Y.len],Y.und' _,by first | rfl | simp,by first | rfl | simp [MS.q]⟩
 rw [qbw,if_neg (by simp [h0])]
 rcases hk:kGet s.own key with _ | w
 rotate_left
 ·
  simp -dsimp [go_sem,hN,Y.lm',Y.lo',hk]
  exact ⟨_,.refl _,K s.q,by simp [go_sem],by first | exact hwk.refl _ | exact hwk.app0 _ | simp [hwk.refl],by simp [Y.len],Y.und' _,by first | rfl | simp,by first | rfl | simp [MS.q]⟩
 simp -dsimp [go_sem,hN,Y.lm',Y.lo',hk]
 refine qaj (c_Contains_S C.rd key) (by simp) ?_
 simp -dsimp [go_sem,hN]
 repeat refine ⟨by grind,?_⟩
 refine cnd ?_ ?_<;>intro h1<;>simp at h1
 ·
  simp -dsimp [go_sem,hN]
  refine qai (c_interp_restart key _) ?_
  rintro r h' ⟨rfl,rfl⟩
  simp -dsimp [go_sem,hN]
  simp only [h1.1,h1.2,and_self,if_true]
  exact ⟨_,.refl _,K s.q,by simp [go_sem],by first | exact hwk.refl _ | exact hwk.app0 _ | simp [hwk.refl],by simp [Y.len],Y.und' _,by first | rfl | simp,by first | rfl | simp [MS.q]⟩
 have h1':¬ (C.all=false∧hasK C.rd key=false):=by rintro ⟨h2,h3⟩;have:=h1 h2;rw [this] at h3;cases h3
 simp only [h1',if_false]
 simp -dsimp [go_sem,hN,Y.lm',Y.lir']
 refine qai (c_with _ _ s.reads (Y.lir' s.q _) (by omega) key ha) ?_
 rintro r h' ⟨rfl,rfl⟩
 simp -dsimp [go_sem,hN,Y.sir',Y.lm',Y.smx',Y.len,Y.loc,Y.sloc,Y.loc1,Y.sloc1]
 refine qac (c_state_Get C.state key) ?_
 simp -dsimp [go_sem,hN,Y.sir',Y.lm',Y.smx',Y.len,Y.loc,Y.sloc,Y.loc1,Y.sloc1]
 exact ⟨_,.refl _,K (MS.q { s with reads:=withS s.reads key }),by simp [go_sem],by first | exact hwk.refl _ | exact hwk.app0 _ | simp [hwk.refl],by simp [Y.len],Y.und' _,by first | rfl | simp,by first | rfl | simp [MS.q]⟩
theorem c_machine_store (Y:MHs C tT tx g m v o io ir ip K n0) (s:MS) (key:qad) (x:V) (ha:ascS s.puts) (hl:s.puts.length+1≤68719476736) :
  ACalls Tryz.prog 153 [.ptr m 0,S key,.agg x.c] (K s.q) fun r h'=>r=endU (qbt C key x s).1∧h'=K (qbt C key x s).2.q:=by
 refine qav Tryz.func153 Tryz.ntmps153 rfl (by kernel_rfl) rfl fun E hN hh hu hb hb' hua=>?_
 simp -dsimp [go_sem,hN]
 refine qac (c_keys_Valid key) ?_
 simp -dsimp [go_sem,hN]
 refine cnd ?_ ?_<;>intro h0<;>simp at h0
 ·
  simp -dsimp [go_sem,hN]
  refine qai (qa2 1004 _) ?_
  rintro r h' ⟨rfl,rfl⟩
  simp -dsimp [go_sem,hN]
  rw [qbt,if_pos h0]
  exact ⟨_,.refl _,K s.q,by simp [go_sem],by first | exact hwk.refl _ | exact hwk.app0 _ | simp [hwk.refl],by simp [Y.len],Y.und' _,by first | rfl | simp,by first | rfl | simp [MS.q]⟩
 rw [qbt,if_neg (by simp [h0])]
 simp -dsimp [go_sem,hN,Y.lm']
 refine qaj (c_Contains_S C.wr key) (by simp) ?_
 simp -dsimp [go_sem,hN]
 repeat refine ⟨by grind,?_⟩
 refine cnd ?_ ?_<;>intro h1<;>simp at h1
 ·
  simp -dsimp [go_sem,hN]
  refine qai (c_interp_restart key _) ?_
  rintro r h' ⟨rfl,rfl⟩
  simp -dsimp [go_sem,hN]
  simp only [h1.1,h1.2,and_self,if_true]
  exact ⟨_,.refl _,K s.q,by simp [go_sem],by first | exact hwk.refl _ | exact hwk.app0 _ | simp [hwk.refl],by simp [Y.len],Y.und' _,by first | rfl | simp,by first | rfl | simp [MS.q]⟩
 have h1':¬ (C.all=false∧hasK C.wr key=false):=by rintro ⟨h2,h3⟩;have:=h1 h2;rw [this] at h3;cases h3
 simp only [h1',if_false]
 simp -dsimp [go_sem,hN,Y.lm',Y.lip']
 refine qai (c_with _ _ s.puts (Y.lip' s.q _) (by omega) key ha) ?_
 rintro r h' ⟨rfl,rfl⟩
 simp -dsimp [go_sem,hN,Y.sip',Y.lm',Y.smx']
 refine qak 6 mixed (by kernel_rfl) (by kernel_rfl) ?_
 simp -dsimp [go_sem,hN,Y.lm',Y.lo',Y.len,Y.loc,Y.so']
 exact ⟨_,.refl _,K (MS.q { s with puts:=withS s.puts key,own:=kSet s.own key x }),by simp [go_sem],by first | exact hwk.refl _ | exact hwk.app0 _ | simp [hwk.refl],by simp [Y.len],Y.und' _,by first | rfl | simp,by first | rfl | simp [MS.q]⟩
end Go.Proofs.YtdbpbpmikpdjcaaGreatDoor
