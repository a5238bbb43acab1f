/- Part 39 of a proof: R1, W20, W22, W23 -/
import Derived.Shelf.Small.Strs
import Derived.Shelf.Strconv.Itoa4
import Derived.Lib.ItoaLen
import Derived.Test.YtbimdamecieomaaGreatDoorQ14
import Derived.Test.YtbimdamecieomaaGreatDoorQ15
import Derived.Test.YtbimdamecieomaaGreatDoorQ16
import Derived.Test.YtbimdamecieomaaGreatDoorQ17
import Derived.Test.YtbimdamecieomaaGreatDoorQ21
import Derived.Test.YtbimdamecieomaaGreatDoorQ22
import Derived.Test.YtbimdamecieomaaGreatDoorQ28
import Derived.Test.YtbimdamecieomaaGreatDoorQ31
import Derived.Test.YtbimdamecieomaaGreatDoorQ36
import Derived.Test.YtbimdamecieomaaGreatDoorQ37
set_option linter.all false

namespace Go.Proofs.YtbimdamecieomaaGreatDoor
open Go Go.Abs Go.Cw
@[simp] theorem any20:anyT Tryz.prog 20=true:=by kernel_rfl
theorem c_run1_ret {c:Ctx} {h:qaa} {w:World} (hs:HSim c h w) {i4 i5:Nat} {vs:Array Value} (ha:RelL c [.ptr i4 0,.ptr i5 0] vs) :
  CallsD Tryz.prog 137 vs .returning w fun e u' w'=>(∃ v,e=.returned v)∧u'=.returning∧∃ c',HSim c' h w'∧(⟨12,c,h,w⟩:Ent).ok c' h w':=by
 refine callsD_of_wpS Tryz.func137 rfl fun c₀ cs hu=>?_;have s0:=sim_enter (N:=12) hs ha (by simp);refine wpS_seq (wpS_region ?_);simp [wpOpsS,go_sem,recoverD,hu,Exit.thenS,Tryz.ntmps137];obtain ⟨q1,q2,q3,q4,q5,q6,q7⟩:=c₀;simp only at hu;subst hu;have s1:=s0.put (.refl c) hs (d:=some 5) (by simp) (Rel.val Value.nilIface);refine wpS_fn (E:=⟨12,c,h,w⟩) (c₀:=⟨q1,q2,q3,q4,.returning,q6,q7⟩) (U:=.returning) (cs:=cs) (fn:=Tryz.f137) s1 (Ent.ok.refl 12 hs) (H:=h) (n0:=h.length) (Nat.le_refl _) ?_;refine qai _ _ _ ?_;have hN:(⟨12,c,h,w⟩:Ent).N=12:=rfl;have hu':=hs.hUnder;simp -dsimp [go_sem,hN,Tryz.f137,hu'];exact ⟨.tuple [],.refl _,h,rfl,hwk.refl _,Nat.le_refl _,hu',rfl,rfl⟩
@[simp] theorem za74:zeroAV Tryz.prog 146=some (.agg [I 0,I 0,.nils,S em]):=by kernel_rfl
theorem c_run1_pan {c:Ctx} {h:qaa} {w:World} (hs:HSim c h w) {i4 i5:Nat} {vs:Array Value} (ha:RelL c [.ptr i4 0,.ptr i5 0] vs) {st:List AV} (hst:st.length=4) (x4:List AV) (h4:h[i4]?=some (.cells x4)) (hx4:x4.length=4) (x5:AV) (h5:h[i5]?=some (.cells [x5])) (h45:i4≠i5) (hds:st.all AV.one=true)
  {v:Value} (hv:Rel c (.iface 146 (.agg st)) v) :
  CallsD Tryz.prog 137 vs (.panicking [⟨v,false,false⟩]) w fun e u' w'=>(∃ v,e=.returned v)∧u'=.panicking [⟨v,true,false⟩]∧∃ c',HSim c' ((h.set i4 (.cells st)).set i5 (.cells [Bo true])) w'∧(⟨12,c,h,w⟩:Ent).ok c' ((h.set i4 (.cells st)).set i5 (.cells [Bo true])) w':=by
 refine callsD_of_wpS Tryz.func137 rfl fun c₀ cs hu=>?_;have s0:=sim_enter (N:=12) hs ha (by simp);refine wpS_seq (wpS_region ?_);simp [wpOpsS,go_sem,recoverD,hu,Exit.thenS,Tryz.ntmps137];have s1:=s0.put (.refl c) hs (d:=some 5) (by simp) hv;refine wpS_fn (E:=⟨12,c,h,w⟩) (c₀:=c₀) (U:=.panicking [⟨v,true,false⟩]) (cs:=cs) (fn:=Tryz.f137) s1 (Ent.ok.refl 12 hs) (H:=(h.set i4 (.cells st)).set i5 (.cells [Bo true])) (n0:=h.length) (Nat.le_refl _) ?_;refine qai _ _ _ ?_;have hN:(⟨12,c,h,w⟩:Ent).N=12:=rfl;have hu':=hs.hUnder;have l4:i4<h.length:=(List.getElem?_eq_some_iff.1 h4).1;have l5:i5<h.length:=(List.getElem?_eq_some_iff.1 h5).1;obtain ⟨a,b,d,e,rfl⟩:∃ a b d e,st=[a,b,d,e]:=by
  match st,hst with
  | [a,b,d,e],_=>exact ⟨a,b,d,e,rfl⟩
 have hun:qav h.length [a,b,d,e]=true:=by
  have:=hv.under hs.dom;simpa [AV.under] using this
 have a4:(h++[AObj.cells [a,b,d,e]])[i4]?=some (.cells x4):=by rw [List.getElem?_append_left l4];exact h4
 have a5:((h++[AObj.cells [a,b,d,e]]).set i4 (AObj.cells [a,b,d,e]))[i5]?=some (.cells [x5]):=by rw [List.getElem?_set_ne h45,List.getElem?_append_left l5];exact h5
 simp -dsimp [go_sem,hN,Tryz.f137,hu',a4,a5,hx4];rw [show x4.drop 4=[] from List.drop_eq_nil_of_le (by omega),a5];refine ⟨by simp,.tuple [],.refl _,_,rfl,?_,?_,?_,rfl,rfl⟩
 ·
  rw [List.set_append_left _ _ l4,List.set_append_left _ _ (by simpa using l5)];exact hwk.app0 _
 · simp
 ·
  simp only [List.length_set];exact qbt (qbt hu' hun) (by simp [AObj.under,qav,AV.under])
def zs:List AV:=[I 0,I 0,.slice [],S em]
theorem c_interp_run (m:AV) {g:FuncId} {first caps:List AV} {h:qaa} {Rg R:AEnd→qaa→Prop} (hg:ACalls Tryz.prog g (qa4 (h++[.cells [I 0,I 0,.nils,S em],.cells [Bo false]]) (first++caps)) (h++[.cells [I 0,I 0,.nils,S em],.cells [Bo false]]) Rg)
  (hR:∀ r h',Rg r h'→h.length+2≤h'.length→(∃ x4,h'[h.length]?=some (.cells x4)∧x4.length=4)∧(∃ x5,h'[h.length+1]?=some (.cells [x5]))∧hUnder h.length (h'.take h.length)=true∧match r with
   | .ret _=>R (.ret (.tuple [.agg zs,Bo false])) (h'.take h.length)
   | .panic (.iface 146 (.agg st))=>st.length=4∧st.all AV.one=true∧qav h.length st=true∧R (.ret (.tuple [.agg st,Bo true])) (h'.take h.length)
   | _=>False) (hst':∀ h' st,Rg (.panic (.iface 146 (.agg st))) h'→∀ H,qa4 H st=st):ACalls Tryz.prog 91 [m,.fn (.func g) first caps] h R:=by
 refine ⟨⟨_,Tryz.func91,by kernel_rfl,by kernel_rfl⟩,fun c w vs hs ha=>?_⟩;refine calls_of_wp_defers Tryz.func91 rfl ?_;have s0:=sim_enter (N:=10) hs ha (by simp);have k0:=Ent.ok.refl 10 hs;rw [Tryz.ntmps91];refine wp_seq (wp_mono ((awp_opsG (E:=⟨10,c,h,w⟩) (Q:=fun x e=>x=.normal∧e=⟨[(5,.ptr (h.length+1) 0),(4,.ptr h.length 0),(0,m),(1,.fn (.func g) first caps)],h++[.cells [I 0,I 0,.nils,S em],.cells [Bo false]]⟩) ?_) c _ w s0 k0) ?_)
 ·
  have hN:(⟨10,c,h,w⟩:Ent).N=10:=rfl;simp -dsimp [go_sem,hN]
 rintro ex a1 w1 ⟨x',e1,c1,⟨rfl,rfl⟩,hx,s1,k1⟩;cases ex<;>simp only [XR] at hx;show Code.wp _ _ _ a1 w1;have t4:=s1.tmps 4;have t5:=s1.tmps 5;have t1:=s1.tmps 1;simp [qba] at t4 t5 t1;refine wp_seq (wp_region_list ?_);have sz:a1.tmps.size=10:=s1.size;have df:a1.defers=[]:=s1.defers;obtain ⟨tm,dfs⟩:=a1;simp only at sz df;subst df;simp [wpList,go_sem,Oper.wp,Oper.upon,Instr.makeFunc,sz];refine .inl (.inl ?_);have s3:=s1.put (.refl c1) s1.hs (d:=some 6) (by simp) (Rel.top (Value.func (Fn.func 137) #[] #[tm[4],tm[5]]));have E3:({ tmps:=tm.setIfInBounds 6 (Value.func (Fn.func 137) #[] #[tm[4],tm[5]]),defers:=[{ target:=Target.fn (Fn.func 137) #[tm[4],tm[5]],args:=#[] }] }:Act)=ddf [{ target:=Target.fn (Fn.func 137) #[tm[4],tm[5]],args:=#[] }] (({ tmps:=tm,defers:=[] }:Act).put (some 6) (Value.func (Fn.func 137) #[] #[tm[4],tm[5]])):=rfl;rw [E3];have hd4:∀ c',c1.le c'→RelL c' [.ptr h.length 0,.ptr (h.length+1) 0] #[tm[4],tm[5]]:=fun c' hle=>⟨rfl,fun j x v hx hv=>by
  match j with
  | 0=>simp at hx hv;subst hx;subst hv;simpa [sz] using t4.mono hle
  | 1=>simp at hx hv;subst hx;subst hv;simpa [sz] using t5.mono hle
  | j+2=>simp at hx⟩
 -- what stands behind the deferred call
 have fin:∀ (c5:Ctx) (e5:Env) (a5:Act) (w5:World) (hf:qaa) (st:List AV) (b:Bool),Sim 10 c5 e5 a5 w5→(⟨10,c,h,w⟩:Ent).ok c5 e5.h w5→qba e5.t 4=.ptr h.length 0→qba e5.t 5=.ptr (h.length+1) 0 →
   e5.h[h.length]?=some (.cells st)→st.length=4→qav h.length (qa4 e5.h st)=true→e5.h[h.length+1]?=some (.cells [Bo b])→hwk e5.h hf→hf.length=h.length→hUnder h.length hf=true→R (.ret (.tuple [.agg (qa4 e5.h st),Bo b])) hf →
   ∃ v,(results Tryz.f91 a5.tmps).run Tryz.prog w5=.ok v w5∧∃ r h',R r h'∧∃ x,EndR x r (.returned v)∧HSim x h' w5∧(⟨0,c,h,w⟩:Ent).ok x h' w5:=by
  intro c5 e5 a5 w5 hf st b s5 k5 l4 l5 g4 hst hun g5 hw hl hu hRR;obtain ⟨v,hv,hr⟩:=results_ok (E:=⟨10,c,h,w⟩) (P:=Tryz.prog) s5 Tryz.f91 (by
   simp [Tryz.f91,go_sem,l4,l5,g4,g5,hst])
  have hval:(mkRes ((Tryz.f91).results.toList.map fun r=>(resSV Tryz.prog e5 r).val))=.tuple [.agg st,Bo b]:=by
   have ht:st.take 4=st:=List.take_of_length_le (by omega);simp [Tryz.f91,go_sem,l4,l5,g4,g5,ht]
  rw [hval] at hr;obtain ⟨c6,q1,q2,q3⟩:=finish (E:=⟨10,c,h,w⟩) s5 k5 hr (r':=.tuple [.agg (qa4 e5.h st),Bo b]) (h':=hf) (by simp [AV.norm,qa4]) (by simp [AV.under,qav,hl];exact hun) hw (by simp [hl]) (by rw [hl];exact hu);exact ⟨v,hv,_,hf,hRR,c6,q3,q1,q2.withN 0⟩
 have k3:(⟨10,c1,h++[.cells [I 0,I 0,.nils,S em],.cells [Bo false]],w1⟩:Ent).ok c1 (h++[.cells [I 0,I 0,.nils,S em],.cells [Bo false]]) w1:=Ent.ok.refl 10 s1.hs;refine wp_seq (wp_region_list (wpList_ddf (Q:=conc ⟨10,c1,h++[.cells [I 0,I 0,.nils,S em],.cells [Bo false]],w1⟩ fun x e=>match x with
  | .normal=>(∃ v,Rg (.ret v) e.h)∧qba e.t 4=.ptr h.length 0∧qba e.t 5=.ptr (h.length+1) 0
  | .panic v=>Rg (.panic v) e.h∧qba e.t 4=.ptr h.length 0∧qba e.t 5=.ptr (h.length+1) 0
  | _=>False) ?_ ((qck (E:=⟨10,c1,h++[.cells [I 0,I 0,.nils,S em],.cells [Bo false]],w1⟩) _ [] _ rfl ?_) c1 _ w1 s3 k3)))
 ·
  rintro x a w2 ⟨x',e2,c2,hq,hx,s2,k2⟩;have hle:c1.le c2:=k2.ext;have hlen:h.length+2≤e2.h.length:=by simpa using k2.len
  cases x' with
  | normal =>
   cases x<;>simp only [XR] at hx;obtain ⟨⟨v,hv⟩,l4,l5⟩:=hq;obtain ⟨⟨x4,g4,lx4⟩,⟨x5,g5⟩,hu2,hRR⟩:=hR _ _ hv hlen;show Code.wp _ _ _ _ _;have n4:h.length<e2.h.length:=by omega
   have n5:h.length+1<e2.h.length:=by omega
   refine wp_seq (wp_region_list (wpList_ddf (Q:=conc ⟨10,c2,e2.h,w2⟩ fun x e=>x=.normal∧e.h=(e2.h.set h.length (.cells [I 0,I 0,.nils,S em])).set (h.length+1) (.cells [Bo false])∧qba e.t 4=.ptr h.length 0∧qba e.t 5=.ptr (h.length+1) 0) ?_ ((qck (E:=⟨10,c2,e2.h,w2⟩) _ [] _ rfl ?_) c2 _ w2 s2 (Ent.ok.refl 10 s2.hs))))
   ·
    rintro x a w3 ⟨x',e3,c3,⟨rfl,h3,l4',l5'⟩,hx,s3',k3'⟩;cases x<;>simp only [XR] at hx;show Code.wp _ _ _ _ _;refine wp_ret ?_;have hle3:c1.le c3:=hle.trans k3'.ext;show Leaves _ _ _ _ (a.defers++_) _ _;rw [s3'.defers,List.nil_append];refine leaves_cons (f:=137) (args:=#[tm[4],tm[5]]) (by simp) (by simp [invoke]) ((c_run1_ret s3'.hs (hd4 c3 hle3)).mono ?_);rintro en u' w4 ⟨⟨v4,rfl⟩,rfl,c4,s4,k4⟩;have sim4:Sim 10 c4 e3 a w4:=⟨s3'.defers,s3'.size,fun i=>(s3'.tmps i).mono k4.ext,s4⟩
    have e3a:e3.h[h.length]?=some (.cells [I 0,I 0,.nils,S em]):=by rw [h3];simp [n4]
    have e3b:e3.h[h.length+1]?=some (.cells [Bo false]):=by rw [h3];simp [n5]
    have kk:(⟨10,c,h,w⟩:Ent).ok c4 e3.h w4:=((k1.trans k2).trans k3').trans k4;obtain ⟨v5,h5,h6⟩:=fin c4 e3 a w4 (e2.h.take h.length) [I 0,I 0,.nils,S em] false sim4 kk l4' l5' e3a rfl (by simp [qa4,AV.norm,qav,AV.under]) e3b (by
     rw [h3];exact hwk_take2 (by omega)) (by simp;omega) hu2 (by simpa [qa4,AV.norm,zs] using hRR)
    exact ⟨v5,h5,h6⟩
   ·
    have hN:(⟨10,c2,e2.h,w2⟩:Ent).N=10:=rfl;have g5':(e2.h.set h.length (AObj.cells [I 0,I 0,.nils,S em]))[h.length+1]?=some (.cells [x5]):=by rw [List.getElem?_set_ne (by omega)];exact g5
    simp -dsimp [go_sem,hN,l4,l5,g4,g5,lx4]
    try rw [show x4.drop 4=[] from List.drop_eq_nil_of_le (by omega)]
    try simp -dsimp [go_sem,g5',l4,l5]
  | panic v =>
   obtain ⟨hv,l4,l5⟩:=hq;obtain ⟨⟨x4,g4,lx4⟩,⟨x5,g5⟩,hu2,hRR⟩:=hR _ _ hv hlen;split at hRR
   · rename_i he;cases he
   ·
    rename_i st he;cases he;obtain ⟨hst,hone,hun,hRR⟩:=hRR;cases x with
    | panic ch =>
     cases ch with
     | nil=>simp [XR] at hx
     | cons p l =>
      cases l with
      | cons=>simp [XR] at hx
      | nil =>
       obtain ⟨u,rc,gx⟩:=p;cases rc<;>cases gx<;>simp only [XR] at hx;show Leaves _ _ _ _ (a.defers++_) _ _;rw [s2.defers,List.nil_append];refine leaves_cons (f:=137) (args:=#[tm[4],tm[5]]) (by simp) (by simp [invoke]) ((c_run1_pan s2.hs (hd4 c2 hle) hst x4 g4 lx4 x5 g5 (by omega) hone hx).mono ?_);rintro en u' w4 ⟨⟨v4,rfl⟩,rfl,c4,s4,k4⟩;have n4:h.length<e2.h.length:=by omega
       have n5:h.length+1<e2.h.length:=by omega
       have sim4:Sim 10 c4 ⟨e2.t,(e2.h.set h.length (.cells st)).set (h.length+1) (.cells [Bo true])⟩ a w4:=⟨s2.defers,s2.size,fun i=>(s2.tmps i).mono k4.ext,s4⟩
       have kk:(⟨10,c,h,w⟩:Ent).ok c4 ((e2.h.set h.length (.cells st)).set (h.length+1) (.cells [Bo true])) w4:=(k1.trans k2).trans k4;have hnorm:qa4 ((e2.h.set h.length (.cells st)).set (h.length+1) (.cells [Bo true])) st=st:=hst' _ _ hv _;obtain ⟨v5,h5,h6⟩:=fin c4 ⟨e2.t,(e2.h.set h.length (.cells st)).set (h.length+1) (.cells [Bo true])⟩ a w4 (e2.h.take h.length) st true sim4 kk l4 l5 (by simp [n4]) hst (by rw [hnorm];exact hun) (by simp [n5]) (hwk_take2 (by omega)) (by simp;omega) hu2 (by rw [hnorm];exact hRR);exact ⟨v5,h5,h6⟩
    | _=>simp [XR] at hx
   · exact hRR.elim
  | _=>exact hq.elim
 ·
  have hN:(⟨10,c1,h++[.cells [I 0,I 0,.nils,S em],.cells [Bo false]],w1⟩:Ent).N=10:=rfl;simp -dsimp [go_sem,hN];refine qam hg fun r h' hr=>?_;cases r<;>simp [go_sem,hr];exact ⟨_,hr⟩
end Go.Proofs.YtbimdamecieomaaGreatDoor

set_option maxRecDepth 4000
namespace Go.Proofs.YtbimdamecieomaaGreatDoor
open Go Go.Abs Go.Cw Go.Shelf
def renF:Ren:=⟨fun
 | 129=>185 | 173=>291 | 246=>319 | 283=>333 | 284=>334 | 285=>335 | 286=>336
 | 317=>341 | 318=>342 | 319=>343 | 320=>344 | 337=>346 | 338=>347 | x=>x,
 fun | 0=>0 | 2=>2 | 3=>3 | 4=>4 | 5=>5 | 9=>9 | 20=>20 | 37=>331 | 46=>167 | 51=>218 | 53=>220 | 171=>333 | 173=>335 | 212=>340 | 213=>341 | 232=>343 | 233=>344 | x=>x,
 fun | 17=>1 | 18=>2 | 19=>3 | x=>x⟩
theorem laysF0:Lays.n173 Tryz.prog renF:=by
 constructor<;>first | exact fun _=>by kernel_rfl | kernel_rfl
theorem laysF:LaysM.n173 Tryz.prog renF:={ laysF0 with i0:=by kernel_rfl,i2:=by kernel_rfl,i3:=by kernel_rfl,i4:=by kernel_rfl,i5:=by kernel_rfl,i9:=by kernel_rfl,i20:=by kernel_rfl,i37:=by kernel_rfl,i46:=by kernel_rfl,i51:=by kernel_rfl,i53:=by kernel_rfl,i171:=by kernel_rfl,i173:=by kernel_rfl,i212:=by kernel_rfl,i232:=by kernel_rfl,i233:=by kernel_rfl,m17:=by kernel_rfl,m18:=by kernel_rfl,m19:=by kernel_rfl }
def tabV:Array Value:=(Lib.pow10Tab.map fun z=>Value.int .u64 z).toArray
def tabO (T:TypeId) (x:Nat×Nat):AObj:=.raw 1 (fun _=>.cells tabV T x) []
def qb6 (n:Int):qac:=⟨(Lib.itoa n).toArray⟩
theorem hsim_grow {c:Ctx} {h:qaa} {w:World} (hs:HSim c h w) (k:Nat) (os:Array Obj):HSim c h (Sort.grow (w.drewN k) os)∧(⟨0,c,h,w⟩:Ent).ok c h (Sort.grow (w.drewN k) os):=by
 have hw:∀ b,b<w.heap.size→(Sort.grow (w.drewN k) os).heap[b]?=w.heap[b]?:=fun b hb=>by
  show (w.heap++os)[b]?=_;rw [Array.getElem?_append_left hb]
 refine ⟨hs.ext hw (.refl c) (fun _ _=>rfl) (fun _ _ _ h=>.inl h) hs.dom,?_⟩;exact (Ent.ok.refl 0 hs).ext' hs hw (.refl c) (fun _=>rfl) rfl rfl rfl (by show _≤(w.heap++os).size;simp) (fun _ _ _ h=>.inl h)
theorem c_FormatInt (n:Int) (hn:i64 n) (h:qaa) (g:Nat) {T:TypeId} {x:Nat×Nat} (hg:h[g]?=some (tabO T x)) (hsz:(qb6 n).size≤68719476736) :
  ACalls Tryz.prog 291 [I n,I 10] h fun r h'=>r=.ret (S (qb6 n))∧h'=h:=by
 refine ⟨⟨_,laysF.f173,rfl,rfl⟩,fun c w vs hs ha=>?_⟩;obtain ⟨hb,us,hv,_⟩:=hs.obj _ _ hg
 have htab:Lib.TabIs Tryz.prog w "internal/strconv.uint64pow10" .u64 Lib.pow10Tab:=by
  unfold Lib.TabIs World.var?;rw [laysF.m17];simp only [Option.bind_some];show (match w.heap[1]? with | some (.cells cs _ _)=>some cs | _=>none)=_;rw [hv];rfl
 have he:vs = #[.int .i64 n,.int .i64 10]:=relL_vals (l:=[.int .i64 n,.int .i64 10]) ha;rw [he];refine (Any.strconv_FormatInt_10 laysF n hn.1 hn.2 w htab).mono ?_;rintro e w' ⟨rfl,k,os,rfl⟩;obtain ⟨g1,g2⟩:=hsim_grow hs k os;exact ⟨_,h,c,⟨rfl,rfl⟩,.val _ (by simpa [strOk] using hsz),g1,g2⟩
theorem c_num_Format (n:Int) (hn:i64 n) (h:qaa) (g:Nat) {T:TypeId} {x:Nat×Nat} (hg:h[g]?=some (tabO T x)) :
  ACalls Tryz.prog 265 [I n] h fun r h'=>r=.ret (S (qb6 n))∧h'=h:=by
 have hsz:(qb6 n).size≤68719476736:=by
  have:=Lib.itoa_length_le n hn.1 hn.2;show (Lib.itoa n).length≤_;omega
 refine qa0 Tryz.func265 Tryz.ntmps265 rfl (by kernel_rfl) rfl fun E hN hh hu hb hb' hua=>?_;simp -dsimp [go_sem,hN];refine qam (c_FormatInt n hn h g hg hsz) ?_;rintro r h' ⟨rfl,rfl⟩;simp -dsimp [go_sem,hN];exact ⟨_,.refl _,_,rfl,hwk.refl _,Nat.le_refl _,hu,rfl,rfl⟩
end Go.Proofs.YtbimdamecieomaaGreatDoor

set_option maxRecDepth 4000
set_option maxHeartbeats 2000000
namespace Go.Proofs.YtbimdamecieomaaGreatDoor
open Go Go.Abs Go.Cw
attribute [local go_sem] mC
variable {C:Cfg} {tT:TypeId} {tx:Nat×Nat} {g m v o io ir ip:Nat} {K:MQ→qaa} {n0:Nat}
abbrev MHs (C:Cfg) (tT:TypeId) (tx:Nat×Nat) (g m v o io ir ip:Nat) (K:MQ→qaa) (n0:Nat):Prop:=MH C (tabO tT tx) 71 9 g m v o io ir ip K n0
theorem c_machine_tick (Y:MHs C tT tx g m v o io ir ip K n0) (s:MS) (hst:s.steps≤100000) :
  ACalls Tryz.prog 138 [.ptr m 0] (K s.q) fun r h'=>r=endU (tickS s).1∧h'=K (tickS s).2.q:=by
 refine qa0 Tryz.func138 Tryz.ntmps138 rfl (by kernel_rfl) rfl fun E hN hh hu hb hb' hua=>?_;have hw:IntKind.i64.wrap ((s.steps:Int)+1)=(s.steps:Int)+1:=wrapI (by omega) (by omega);simp -dsimp [go_sem,hN,Y.lm,hw,Y.smx];refine cnd ?_ ?_<;>intro h0<;>simp at h0
 ·
  simp -dsimp [go_sem,hN];refine qam (qa8 1008 _) ?_;rintro r h' ⟨rfl,rfl⟩;simp -dsimp [go_sem,hN];rw [tickS,if_pos (by omega)];exact ⟨_,.refl _,K (tickS s).2.q,by simp [go_sem],by first | exact hwk.refl _ | exact hwk.app0 _ | simp [hwk.refl],by simp [Y.len],Y.und' _,by first | rfl | simp,by first | rfl | simp [MS.q]⟩
 ·
  simp -dsimp [go_sem,hN];rw [tickS,if_neg (by omega)];exact ⟨_,.refl _,K (tickS s).2.q,by simp [go_sem],by first | exact hwk.refl _ | exact hwk.app0 _ | simp [hwk.refl],by simp [Y.len],Y.und' _,by first | rfl | simp,by first | rfl | simp [MS.q]⟩
theorem c_machine_emit (Y:MHs C tT tx g m v o io ir ip K n0) (s:MS) (x:V) (hl:s.out.length≤100) :
  ACalls Tryz.prog 172 [.ptr m 0,.agg x.c] (K s.q) fun r h'=>r=endU (emitS x s).1∧h'=K (emitS x s).2.q:=by
 refine qa0 Tryz.func172 Tryz.ntmps172 rfl (by kernel_rfl) rfl fun E hN hh hu hb hb' hua=>?_;simp -dsimp [go_sem,hN,Y.lm',Y.lio'];refine cnd ?_ ?_<;>intro h0<;>simp at h0
 ·
  simp -dsimp [go_sem,hN];refine qam (qa8 1007 _) ?_;rintro r h' ⟨rfl,rfl⟩;simp -dsimp [go_sem,hN];rw [emitS,if_pos (by omega)];exact ⟨_,.refl _,K s.q,by simp [go_sem],by first | exact hwk.refl _ | exact hwk.app0 _ | simp [hwk.refl],by simp [Y.len],Y.und' _,by first | rfl | simp,by first | rfl | simp [MS.q]⟩
 simp -dsimp [go_sem,hN];refine awp_drawP 10 9 [0] mixed (by kernel_rfl) ?_;simp -dsimp [go_sem,hN,Y.lm',Y.lio',Y.len,Y.loc,Y.sioA,Y.smx'];refine ⟨by omega,?_⟩;rw [emitS,if_neg (by omega)];exact ⟨_,.refl _,K ⟨s.vars,s.own,s.out++[x],s.reads,s.puts,s.out.length+1,s.reads.length,s.puts.length,s.steps⟩,by simp [go_sem],by first | exact hwk.refl _ | exact hwk.app0 _ | simp [hwk.refl],by simp [Y.len],Y.und' _,by first | rfl | simp,by first | rfl | simp [MS.q]⟩
theorem c_machine_fetch (Y:MHs C tT tx g m v o io ir ip K n0) (s:MS) (key:qac) (ha:qb7 s.reads) (hl:s.reads.length+1≤68719476736) :
  ACalls Tryz.prog 266 [.ptr m 0,S key] (K s.q) fun r h'=>r=endV (qb9 C key s).1∧h'=K (qb9 C key s).2.q:=by
 refine qa0 Tryz.func266 Tryz.ntmps266 rfl (by kernel_rfl) rfl fun E hN hh hu hb hb' hua=>?_;simp -dsimp [go_sem,hN];refine qab (qdo key) ?_;simp -dsimp [go_sem,hN];refine cnd ?_ ?_<;>intro h0<;>simp at h0
 ·
  simp -dsimp [go_sem,hN];refine qam (qa8 1004 _) ?_;rintro r h' ⟨rfl,rfl⟩;simp -dsimp [go_sem,hN];rw [qb9,if_pos h0];exact ⟨_,.refl _,K s.q,by simp [go_sem],by first | exact hwk.refl _ | exact hwk.app0 _ | simp [hwk.refl],by simp [Y.len],Y.und' _,by first | rfl | simp,by first | rfl | simp [MS.q]⟩
 rw [qb9,if_neg (by simp [h0])];rcases hk:qcu s.own key with _ | w
 rotate_left
 ·
  simp -dsimp [go_sem,hN,Y.lm',Y.lo',hk];exact ⟨_,.refl _,K s.q,by simp [go_sem],by first | exact hwk.refl _ | exact hwk.app0 _ | simp [hwk.refl],by simp [Y.len],Y.und' _,by first | rfl | simp,by first | rfl | simp [MS.q]⟩
 simp -dsimp [go_sem,hN,Y.lm',Y.lo',hk];refine qag (c_Contains_S C.rd key) (by simp) ?_;simp -dsimp [go_sem,hN]
 repeat refine ⟨by grind,?_⟩
 refine cnd ?_ ?_<;>intro h1<;>simp at h1
 ·
  simp -dsimp [go_sem,hN];refine qam (c_interp_restart key _) ?_;rintro r h' ⟨rfl,rfl⟩;simp -dsimp [go_sem,hN];simp only [h1.1,h1.2,and_self,if_true];exact ⟨_,.refl _,K s.q,by simp [go_sem],by first | exact hwk.refl _ | exact hwk.app0 _ | simp [hwk.refl],by simp [Y.len],Y.und' _,by first | rfl | simp,by first | rfl | simp [MS.q]⟩
 have h1':¬ (C.all=false∧qc8 C.rd key=false):=by rintro ⟨h2,h3⟩;have:=h1 h2;rw [this] at h3;cases h3
 simp only [h1',if_false];simp -dsimp [go_sem,hN,Y.lm',Y.lir'];refine qam (c_with _ _ s.reads (Y.lir' s.q _) (by omega) key ha) ?_;rintro r h' ⟨rfl,rfl⟩;simp -dsimp [go_sem,hN,Y.sir',Y.lm',Y.smx',Y.len,Y.loc,Y.sloc,Y.loc1,Y.sloc1];refine qab (c_state_Get C.state key) ?_;simp -dsimp [go_sem,hN,Y.sir',Y.lm',Y.smx',Y.len,Y.loc,Y.sloc,Y.loc1,Y.sloc1];exact ⟨_,.refl _,K (MS.q { s with reads:=withS s.reads key }),by simp [go_sem],by first | exact hwk.refl _ | exact hwk.app0 _ | simp [hwk.refl],by simp [Y.len],Y.und' _,by first | rfl | simp,by first | rfl | simp [MS.q]⟩
theorem c_machine_store (Y:MHs C tT tx g m v o io ir ip K n0) (s:MS) (key:qac) (x:V) (ha:qb7 s.puts) (hl:s.puts.length+1≤68719476736) :
  ACalls Tryz.prog 170 [.ptr m 0,S key,.agg x.c] (K s.q) fun r h'=>r=endU (qb8 C key x s).1∧h'=K (qb8 C key x s).2.q:=by
 refine qa0 Tryz.func170 Tryz.ntmps170 rfl (by kernel_rfl) rfl fun E hN hh hu hb hb' hua=>?_;simp -dsimp [go_sem,hN];refine qab (qdo key) ?_;simp -dsimp [go_sem,hN];refine cnd ?_ ?_<;>intro h0<;>simp at h0
 ·
  simp -dsimp [go_sem,hN];refine qam (qa8 1004 _) ?_;rintro r h' ⟨rfl,rfl⟩;simp -dsimp [go_sem,hN];rw [qb8,if_pos h0];exact ⟨_,.refl _,K s.q,by simp [go_sem],by first | exact hwk.refl _ | exact hwk.app0 _ | simp [hwk.refl],by simp [Y.len],Y.und' _,by first | rfl | simp,by first | rfl | simp [MS.q]⟩
 rw [qb8,if_neg (by simp [h0])];simp -dsimp [go_sem,hN,Y.lm'];refine qag (c_Contains_S C.wr key) (by simp) ?_;simp -dsimp [go_sem,hN]
 repeat refine ⟨by grind,?_⟩
 refine cnd ?_ ?_<;>intro h1<;>simp at h1
 ·
  simp -dsimp [go_sem,hN];refine qam (c_interp_restart key _) ?_;rintro r h' ⟨rfl,rfl⟩;simp -dsimp [go_sem,hN];simp only [h1.1,h1.2,and_self,if_true];exact ⟨_,.refl _,K s.q,by simp [go_sem],by first | exact hwk.refl _ | exact hwk.app0 _ | simp [hwk.refl],by simp [Y.len],Y.und' _,by first | rfl | simp,by first | rfl | simp [MS.q]⟩
 have h1':¬ (C.all=false∧qc8 C.wr key=false):=by rintro ⟨h2,h3⟩;have:=h1 h2;rw [this] at h3;cases h3
 simp only [h1',if_false];simp -dsimp [go_sem,hN,Y.lm',Y.lip'];refine qam (c_with _ _ s.puts (Y.lip' s.q _) (by omega) key ha) ?_;rintro r h' ⟨rfl,rfl⟩;simp -dsimp [go_sem,hN,Y.sip',Y.lm',Y.smx'];refine qan 6 mixed (by kernel_rfl) (by kernel_rfl) ?_;simp -dsimp [go_sem,hN,Y.lm',Y.lo',Y.len,Y.loc,Y.so'];exact ⟨_,.refl _,K (MS.q { s with puts:=withS s.puts key,own:=qda s.own key x }),by simp [go_sem],by first | exact hwk.refl _ | exact hwk.app0 _ | simp [hwk.refl],by simp [Y.len],Y.und' _,by first | rfl | simp,by first | rfl | simp [MS.q]⟩
end Go.Proofs.YtbimdamecieomaaGreatDoor

set_option maxRecDepth 4000
set_option maxHeartbeats 4000000
namespace Go.Proofs.YtbimdamecieomaaGreatDoor
open Go Go.Abs Go.Cw
attribute [local go_sem] mC
variable {C:Cfg} {tT:TypeId} {tx:Nat×Nat} {g m v o io ir ip:Nat} {K:MQ→qaa} {n0:Nat}
theorem c_machine_unary (Y:MHs C tT tx g m v o io ir ip K n0) (hF:C.fmt=qb6) (s:MS) (op:Int) (a:V) (ha:qb7 s.reads) (hl:s.reads.length+1≤68719476736) (hr:rngV a) :
  ACalls Tryz.prog 213 [.ptr m 0,I op,.agg a.c] (K s.q) fun r h'=>r=endV (unS C op a s).1∧h'=K (unS C op a s).2.q:=by
 refine qa0 Tryz.func213 Tryz.ntmps213 rfl (by kernel_rfl) rfl fun E hN hh hu hb hb' hua=>?_;simp -dsimp [go_sem,hN,Y.len];refine cnd ?_ ?_<;>intro h0<;>simp at h0
 ·
  rw [unS,if_pos h0];simp -dsimp [go_sem,hN,Y.loc,Y.len];refine qam (qdc (decide (a.k=1)) _) ?_;rintro r h' ⟨⟨hm,rfl⟩ | ⟨hm,rfl⟩,rfl⟩<;>simp at hm
  ·
   simp -dsimp [go_sem,hN,Y.loc,Y.len];refine qab (c_num_Neg a.n) ?_;simp -dsimp [go_sem,hN,Y.loc,Y.len];refine qam (qcm (numNeg a.n) _) ?_;rintro r h' ⟨rfl,rfl⟩;rw [if_pos hm];cases qct (numNeg a.n)<;>simp -dsimp [go_sem,hN,endV,Y.loc1,Y.sloc1,Y.len]<;>exact ⟨_,.refl _,K s.q,by simp [go_sem],by first | exact hwk.refl _ | exact hwk.app0 _ | simp [hwk.refl],by simp [Y.len],Y.und' _,by first | rfl | simp,by first | rfl | simp [MS.q]⟩
  ·
   simp -dsimp [go_sem,hN];rw [if_neg hm];exact ⟨_,.refl _,K s.q,by simp [go_sem],by first | exact hwk.refl _ | exact hwk.app0 _ | simp [hwk.refl],by simp [Y.len],Y.und' _,by first | rfl | simp,by first | rfl | simp [MS.q]⟩
 simp -dsimp [go_sem,hN,Y.len];rw [unS,if_neg h0];refine cnd ?_ ?_<;>intro h1<;>simp at h1
 ·
  rw [if_pos h1];simp -dsimp [go_sem,hN,Y.loc,Y.len];refine qam (qdc (decide (a.k=3)) _) ?_;rintro r h' ⟨⟨hm,rfl⟩ | ⟨hm,rfl⟩,rfl⟩<;>simp at hm
  ·
   simp -dsimp [go_sem,hN,Y.loc,Y.len];refine qab (qbk (decide (a.n=0))) ?_;simp -dsimp [go_sem,hN,Y.loc1,Y.sloc1,Y.len];rw [if_pos hm];exact ⟨_,.refl _,K s.q,by simp [go_sem],by first | exact hwk.refl _ | exact hwk.app0 _ | simp [hwk.refl],by simp [Y.len],Y.und' _,by first | rfl | simp,by first | rfl | simp [MS.q]⟩
  ·
   simp -dsimp [go_sem,hN];rw [if_neg hm];exact ⟨_,.refl _,K s.q,by simp [go_sem],by first | exact hwk.refl _ | exact hwk.app0 _ | simp [hwk.refl],by simp [Y.len],Y.und' _,by first | rfl | simp,by first | rfl | simp [MS.q]⟩
 simp -dsimp [go_sem,hN,Y.len];rw [if_neg h1];refine cnd ?_ ?_<;>intro h2<;>simp at h2
 ·
  rw [if_pos h2];simp -dsimp [go_sem,hN,Y.loc,Y.len];refine qam (qdc (decide (a.k=1)) _) ?_;rintro r h' ⟨⟨hm,rfl⟩ | ⟨hm,rfl⟩,rfl⟩<;>simp at hm
  ·
   simp -dsimp [go_sem,hN,Y.loc,Y.len];refine qam (c_num_Format a.n hr.1 _ g (Y.lg' _ _)) ?_;rintro r h' ⟨rfl,rfl⟩;simp -dsimp [go_sem,hN];refine qam (c_interp_text _ _) ?_;rintro r h' ⟨rfl,rfl⟩;rw [if_pos hm,hF];cases textS (qb6 a.n)<;>simp -dsimp [go_sem,hN,endV,Y.loc1,Y.sloc1,Y.len]<;>exact ⟨_,.refl _,K s.q,by simp [go_sem],by first | exact hwk.refl _ | exact hwk.app0 _ | simp [hwk.refl],by simp [Y.len],Y.und' _,by first | rfl | simp,by first | rfl | simp [MS.q]⟩
  ·
   simp -dsimp [go_sem,hN];rw [if_neg hm];exact ⟨_,.refl _,K s.q,by simp [go_sem],by first | exact hwk.refl _ | exact hwk.app0 _ | simp [hwk.refl],by simp [Y.len],Y.und' _,by first | rfl | simp,by first | rfl | simp [MS.q]⟩
 simp -dsimp [go_sem,hN,Y.len];rw [if_neg h2];refine cnd ?_ ?_<;>intro h3<;>simp at h3
 ·
  rw [if_pos h3];simp -dsimp [go_sem,hN,Y.loc,Y.len];refine qam (qdc (decide (a.k=2)) _) ?_;rintro r h' ⟨⟨hm,rfl⟩ | ⟨hm,rfl⟩,rfl⟩<;>simp at hm
  ·
   simp -dsimp [go_sem,hN,Y.loc,Y.len];refine qab (qde (a.s.size:Int)) ?_;simp -dsimp [go_sem,hN,Y.loc1,Y.sloc1,Y.len];rw [if_pos hm];exact ⟨_,.refl _,K s.q,by simp [go_sem],by first | exact hwk.refl _ | exact hwk.app0 _ | simp [hwk.refl],by simp [Y.len],Y.und' _,by first | rfl | simp,by first | rfl | simp [MS.q]⟩
  ·
   simp -dsimp [go_sem,hN];rw [if_neg hm];exact ⟨_,.refl _,K s.q,by simp [go_sem],by first | exact hwk.refl _ | exact hwk.app0 _ | simp [hwk.refl],by simp [Y.len],Y.und' _,by first | rfl | simp,by first | rfl | simp [MS.q]⟩
 simp -dsimp [go_sem,hN,Y.loc,Y.len];rw [if_neg h3];refine qam (qdc (decide (a.k=2)) _) ?_;rintro r h' ⟨⟨hm,rfl⟩ | ⟨hm,rfl⟩,rfl⟩<;>simp at hm
 rotate_left
 ·
  simp -dsimp [go_sem,hN];rw [if_neg hm];exact ⟨_,.refl _,K s.q,by simp [go_sem],by first | exact hwk.refl _ | exact hwk.app0 _ | simp [hwk.refl],by simp [Y.len],Y.und' _,by first | rfl | simp,by first | rfl | simp [MS.q]⟩
 rw [if_neg (by simpa using hm)];simp -dsimp [go_sem,hN,Y.loc,Y.len];refine qam (c_machine_fetch (Y.ext [_,_] (by simp [hUnder,AObj.under,AV.under,qav])) s a.s ha hl) ?_;rintro r h' ⟨rfl,rfl⟩;rcases qb9 C a.s s with ⟨z | w,s'⟩
 ·
  simp -dsimp [go_sem,hN,endV];exact ⟨_,.refl _,K s'.q,by simp [go_sem],by first | exact hwk.refl _ | exact hwk.app0 _ | simp [hwk.refl],by simp [Y.len],Y.und' _,by first | rfl | simp,by first | rfl | simp [MS.q]⟩
 simp -dsimp [go_sem,hN,endV,Y.loc,Y.loc1,Y.len];simp only [gotS];refine cnd ?_ ?_<;>intro h4<;>simp at h4
 ·
  simp -dsimp [go_sem,hN,Y.loc2,Y.len];refine qab (qbk (!decide (w.k=0))) ?_;simp -dsimp [go_sem,hN,Y.loc1,Y.sloc1,Y.len];rw [if_pos h4];exact ⟨_,.refl _,K s'.q,by simp [go_sem],by first | exact hwk.refl _ | exact hwk.app0 _ | simp [hwk.refl],by simp [Y.len],Y.und' _,by first | rfl | simp,by first | rfl | simp [MS.q]⟩
 rw [if_neg h4];simp -dsimp [go_sem,hN,Y.loc2,Y.len];refine cnd ?_ ?_<;>intro h5<;>simp at h5
 ·
  simp -dsimp [go_sem,hN];refine qab (qde 0) ?_;simp -dsimp [go_sem,hN,Y.loc1,Y.sloc1,Y.len];rw [if_pos h5];exact ⟨_,.refl _,K s'.q,by simp [go_sem],by first | exact hwk.refl _ | exact hwk.app0 _ | simp [hwk.refl],by simp [Y.len],Y.und' _,by first | rfl | simp,by first | rfl | simp [MS.q]⟩
 rw [if_neg (by rintro ⟨k1,k2⟩;exact h5 k1 k2)];simp -dsimp [go_sem,hN,Y.loc2,Y.len];refine cnd ?_ ?_<;>intro h6<;>simp at h6
 ·
  simp -dsimp [go_sem,hN];refine qam (c_interp_text em _) ?_;rintro r h' ⟨rfl,rfl⟩;rw [if_pos h6];cases textS em<;>simp -dsimp [go_sem,hN,endV,Y.loc1,Y.sloc1,Y.len]<;>exact ⟨_,.refl _,K s'.q,by simp [go_sem],by first | exact hwk.refl _ | exact hwk.app0 _ | simp [hwk.refl],by simp [Y.len],Y.und' _,by first | rfl | simp,by first | rfl | simp [MS.q]⟩
 rw [if_neg (by rintro ⟨k1,k2⟩;exact h6 k1 k2)];simp -dsimp [go_sem,hN,Y.loc2,Y.len];refine cnd ?_ ?_<;>intro h7<;>simp at h7
 ·
  simp -dsimp [go_sem,hN];refine cnd (fun _=>?_) (fun hx=>by simp [h7] at hx);simp -dsimp [go_sem,hN];refine qam (qa8 1003 _) ?_;rintro r h' ⟨rfl,rfl⟩;simp -dsimp [go_sem,hN];rw [if_pos (.inl h7)];exact ⟨_,.refl _,K s'.q,by simp [go_sem],by first | exact hwk.refl _ | exact hwk.app0 _ | simp [hwk.refl],by simp [Y.len],Y.und' _,by first | rfl | simp,by first | rfl | simp [MS.q]⟩
 simp -dsimp [go_sem,hN,Y.loc2,Y.len];refine cnd ?_ ?_<;>intro h8<;>simp at h8
 ·
  simp -dsimp [go_sem,hN];refine qam (qa8 1003 _) ?_;rintro r h' ⟨rfl,rfl⟩;simp -dsimp [go_sem,hN];rw [if_pos (.inr h8)];exact ⟨_,.refl _,K s'.q,by simp [go_sem],by first | exact hwk.refl _ | exact hwk.app0 _ | simp [hwk.refl],by simp [Y.len],Y.und' _,by first | rfl | simp,by first | rfl | simp [MS.q]⟩
 simp -dsimp [go_sem,hN,Y.loc2,Y.loc1,Y.sloc1,Y.len];rw [if_neg (fun k=>k.elim (fun k=>k.2 (h7 k.1)) (fun k=>k.2 (h8 k.1)))];exact ⟨_,.refl _,K s'.q,by simp [go_sem],by first | exact hwk.refl _ | exact hwk.app0 _ | simp [hwk.refl],by simp [Y.len],Y.und' _,by first | rfl | simp,by first | rfl | simp [MS.q]⟩
end Go.Proofs.YtbimdamecieomaaGreatDoor
