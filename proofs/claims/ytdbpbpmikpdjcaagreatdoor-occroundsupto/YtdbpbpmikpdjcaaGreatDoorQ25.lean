/- Part 25 of a proof: CwI, CwW, CwZ, CwSa -/
import Derived.Test.YtdbpbpmikpdjcaaGreatDoorQ17
import Derived.Test.YtdbpbpmikpdjcaaGreatDoorQ20
import Derived.Test.YtdbpbpmikpdjcaaGreatDoorQ24
set_option linter.all false

namespace Go.Cw
open Go Go.Abs
structure YH (P:Program) (l:Nat) (HF:Nat→qac) (HX:Nat→Ex→qac) (stop:Ex→Bool) (n0:Nat):Prop where
 len:∀ k,(HF k).length=n0
 lenX:∀ k x,(HX k x).length=n0
 und:∀ k,hUnder n0 (HF k)=true
 undX:∀ k x,hUnder n0 (HX k x)=true
 y:∀ k (x:Ex) (L:qac),AYield P l [.agg x.x] (HF k++L) fun r h'=>(stop x=true→r=.ret (Bo false)∧h'=HX k x++L)∧(stop x=false→r=.ret (Bo true)∧h'=HF (k+1)++L)
theorem YH.ext {P:Program} {l:Nat} {HF:Nat→qac} {HX:Nat→Ex→qac} {stop:Ex→Bool} {n0:Nat} (Y:YH P l HF HX stop n0) (L:qac) (hL:hUnder (n0+L.length) L=true):YH P l (fun k=>HF k++L) (fun k x=>HX k x++L) stop (n0+L.length) where
 len:=fun k=>by rw [List.length_append,Y.len]
 lenX:=fun k x=>by rw [List.length_append,Y.lenX]
 und:=fun k=>by rw [qax,qa1 (by omega) (Y.und k),hL];rfl
 undX:=fun k x=>by rw [qax,qa1 (by omega) (Y.undX k x),hL];rfl
 y:=fun k x L'=>by simpa [List.append_assoc] using Y.y k x (L++L')
def finY (HF:Nat→qac) (HX:Nat→Ex→qac) (r:Nat×Option Ex):qac:=match r.2 with
 | none=>HF r.1
 | some e=>HX r.1 e
def gM (ms:List (Option Nat)):qac:=ms.map fun | none=>.none | some D=>qdw D
def dM (ms:List (Option Nat)):List Deferred:=(ms.filterMap id).reverse.map coll
def idxM:Nat→List (Option Nat)→List (Nat×Nat)
 | _,[]=>[]
 | k,none::l=>idxM (k+1) l
 | k,some D::l=>idxM (k+1) l++[(k,D)]
theorem idxM_coll:∀ (ms:List (Option Nat)) (k:Nat),(idxM k ms).map (fun p=>coll p.2)=dM ms
 | [],_=>rfl
 | none::l,k=>by simp only [idxM,idxM_coll l];rfl
 | some D::l,k=>by simp [idxM,idxM_coll l,dM]
theorem idxM_ge:∀ (ms:List (Option Nat)) (k:Nat) (p:Nat×Nat),p∈idxM k ms→k≤p.1∧p.1<k+ms.length∧(gM ms)[p.1 - k]?=some (qdw p.2)
 | [],_,p,h=>by simp [idxM] at h
 | none::l,k,p,h=>by
  obtain ⟨h1,h2,h3⟩:=idxM_ge l (k+1) p h
  refine ⟨by omega,by simp;omega,?_⟩
  rw [show p.1 - k=(p.1 - (k+1))+1 by omega]
  exact h3
 | some D::l,k,p,h=>by
  rw [idxM,List.mem_append] at h
  rcases h with h | h
  ·
   obtain ⟨h1,h2,h3⟩:=idxM_ge l (k+1) p h
   refine ⟨by omega,by simp;omega,?_⟩
   rw [show p.1 - k=(p.1 - (k+1))+1 by omega]
   exact h3
  ·
   simp at h
   subst h
   refine ⟨by simp,by simp,?_⟩
   simp [gM]
theorem idxM_nodup:∀ (ms:List (Option Nat)) (k:Nat),((idxM k ms).map (·.1)).Nodup
 | [],_=>List.nodup_nil
 | none::l,k=>idxM_nodup l (k+1)
 | some D::l,k=>by
  rw [idxM,List.map_append,List.nodup_append]
  refine ⟨idxM_nodup l (k+1),by simp,fun a ha b hb=>?_⟩
  rw [List.mem_map] at ha
  obtain ⟨p,hp,rfl⟩:=ha
  have:=(idxM_ge l (k+1) p hp).1
  simp at hb
  omega
theorem takeA:∀ (l:List (Nat×Nat)) (A Z:qac),(∀ p,p∈l→A.length≤p.1)→∃ Z',takeAll l (A++Z)=A++Z'
 | [],A,Z,_=>⟨Z,rfl⟩
 | p::l,A,Z,h=>by
  rw [takeAll,List.set_append_right _ _ (h p (by simp))]
  exact takeA l A _ fun q hq=>h q (by simp [hq])
theorem gM_app (a b:List (Option Nat)):gM (a++b)=gM a++gM b:=by simp [gM]
theorem dM_snoc (ms:List (Option Nat)) (D:Nat):dM (ms++[none,none,some D])=coll D::dM ms:=by simp [dM,List.filterMap_append]
theorem gM_und (ms:List (Option Nat)) (m:Nat):hUnder m (gM ms)=true:=by
 rw [hUnder_iff]
 intro o ho
 simp only [gM,List.mem_map] at ho
 obtain ⟨x,_,rfl⟩:=ho
 cases x<;>rfl
section
variable {P:Program} {E:Ent} {p:Tmp} {asg body:Code}
def recA (E:Ent) (e:Env) (p:Tmp) (asg body:Code) (l D:Nat) (fn:FuncId) (st:LoopState) (pe:Option Code):AObj:=.raw l (recO st pe fn #[p] asg body D) (slots E.N e)
def roundJ (E:Ent) (idx:Nat) (r0 rb rd:AObj) (R:AEnd→qac→Prop):AExit→List Deferred→Env→Prop
 | .normal,_,e=>e.h[idx]?=some rb∧∃ h',Wk E ⟨[],e.h.set idx r0⟩ ⟨[],h'⟩∧R (.ret (.val (.bool true))) h'
 | .ret,_,e=>e.h[idx]?=some rb∧∃ h',Wk E ⟨[],e.h.set idx rd⟩ ⟨[],h'⟩∧R (.ret (.val (.bool false))) h'
 | _,_,_=>False
theorem awpI_rangeY {g:Operand} {gf:FuncId} {caps:List AV} {Q:AExit→List Deferred→Env→Prop} {ds:List Deferred} {e:Env} (hg:e.get g=.fn (.func gf) [] caps) (hcaps:∀ H,qbg H caps=caps)
  (B:Nat→qac) (X:Nat→Ex→qac) (stop:Ex→Bool) (xs:List Ex) (k n0:Nat) (hB:e.h=B k) (len:∀ j,(B j).length=n0) (lenX:∀ j x,(X j x).length=n0) (und:∀ j,hUnder n0 (B j)=true) (undX:∀ j x,hUnder n0 (X j x)=true)
  (hsl:qau n0 (slots E.N e)=true) (hp:p<E.N)
  (hit:∀ (l:Nat) (L:qac) (HX:Nat→Ex→qac) (n1:Nat),YH P l (fun j=>B j++L) HX stop n1→ACalls P gf ([.fn (.yield l) [] []]++caps) (B k++L) fun r h'=>r=.ret (.tuple [])∧h'=finY (fun j=>B j++L) HX (scan stop xs k))
  (hround:∀ (E':Ent) (l D j:Nat) (x:Ex) (L:qac) (r0 rb rd:AObj),(∀ m,n0≤m→r0.under m=true∧rb.under m=true∧rd.under m=true)→E'.N=E.N→E'.h=B j++qdw D::r0::L→hUnder E'.h.length E'.h=true→(AV.agg x.x).bd →
   AWpI P E' (some l) asg (thenI (fun ds e1=>ds=[]∧e1.h[n0+1]?=some r0 ∧
    AWpI P E' (some l) body (roundJ E' (n0+1) r0 rb rd fun r h' =>
     (stop x=true→r=.ret (Bo false)∧h'=X j x++qdw D::rd::L)∧(stop x=false→r=.ret (Bo true)∧h'=B (j+1)++qdw D::r0::L))
     [] ⟨e1.t,e1.h.set (n0+1) rb⟩) (fun _ _ _=>False)) [] ⟨(p,.agg x.x)::qdu 0 (slots E.N e),E'.h⟩)
  (hdone:∀ (j D:Nat) (o:AObj),scan stop xs k=(j,none)→Q .normal (coll D::ds) ⟨e.t,B j++[qdw D,o]⟩)
  (hstop:∀ (j:Nat) (x:Ex) (D:Nat) (o:AObj),scan stop xs k=(j,some x)→Q .ret (coll D::ds) ⟨e.t,X j x++[qdw D,o]⟩) :
  AWpI P E none (.rangeFunc g #[p] asg body) Q ds e:=by
 refine awpI_range hg fun fn D l=>?_
 have hL:∀ st pe,hUnder (n0+2) [qdw D,recA E e p asg body l D fn st pe]=true:=fun st pe=>by
  simp only [hUnder,qdw,recA,AObj.under,qau,Bool.true_and,Bool.and_true]
  exact qck (by omega) _ hsl
 have hnl:qbg (e.h++[qdw D,.raw l (recO .ready none fn #[p] asg body D) (slots E.N e)]) ([.fn (.yield l) [] []]++caps)=[.fn (.yield l) [] []]++caps:=by
  have:∀ (a b:List AV) H,qbg H (a++b)=qbg H a++qbg H b:=fun a b H=>by
   induction a with
   | nil=>rfl
   | cons x a ih=>simp [qbg,ih]
  rw [this,hcaps]
  simp [qbg,AV.norm]
 rw [hnl,hB]
 have Y:YH P l (fun j=>B j++[qdw D,recA E e p asg body l D fn .ready none]) (fun j x=>X j x++[qdw D,recA E e p asg body l D fn .done (some .ret)]) stop (n0+2):={
  len:=fun j=>by simp [len]
  lenX:=fun j x=>by simp [lenX]
  und:=fun j=>by rw [qax,qa1 (by omega) (und j),hL];rfl
  undX:=fun j x=>by rw [qax,qa1 (by omega) (undX j x),hL];rfl
  y:=fun j x L=>by
   have hidx:(B j++[qdw D,recA E e p asg body l D fn .ready none]++L)[n0+1]?=some (.raw l (recO .ready none fn #[p] asg body D) (slots E.N e)):=by
    rw [List.append_assoc,List.getElem?_append_right (by rw [len];omega),len,show n0+1 - n0=1 by omega]
    rfl
   refine ayield_of hidx (by simpa [slots] using hp) fun E' hN hh hu hbd _=>?_
   have hN':E'.N=E.N:=by rw [hN];simp [slots]
   have hh':E'.h=B j++qdw D::recA E e p asg body l D fn .ready none::L:=by rw [hh];simp
   have hun:∀ st pe m,n0≤m→(recA E e p asg body l D fn st pe).under m=true:=fun st pe m hm=>qck hm _ hsl
   have:=hround E' l D j x L _ (recA E e p asg body l D fn .busy none) (recA E e p asg body l D fn .done (some .ret)) (fun m hm=>⟨hun _ _ m hm,hun _ _ m hm,hun _ _ m hm⟩) hN' hh' (by rw [hh];exact hu) hbd
   have hJ:∀ R,roundJ E' (n0+1) (recA E e p asg body l D fn .ready none) (recA E e p asg body l D fn .busy none) (recA E e p asg body l D fn .done (some .ret)) R=roundI E' (n0+1) l fn #[p] asg body D (slots E.N e) R:=fun R=>by
    funext x ds e
    cases x<;>rfl
   rw [hJ,hh'] at this
   simpa [recA] using this }
 refine (hit l [qdw D,recA E e p asg body l D fn .ready none] _ (n0+2) Y).mono ?_
 rintro r h' ⟨rfl,rfl⟩
 refine ⟨⟨_,rfl⟩,?_⟩
 rcases hsc:scan stop xs k with ⟨j,_ | x⟩
 ·
  refine ⟨.ready,none,by simp,?_,?_⟩
  ·
   simp only [finY]
   rw [List.getElem?_append_right (by rw [len,len];omega),len,len,show n0+1 - n0=1 by omega]
   rfl
  ·
   simp only [finY]
   rw [List.set_append_right _ _ (by rw [len,len];omega),len,len,show n0+1 - n0=1 by omega]
   exact hdone j D _ hsc
 ·
  refine ⟨.done,some .ret,by simp,?_,?_⟩
  ·
   simp only [finY]
   rw [List.getElem?_append_right (by rw [len,lenX];omega),len,lenX,show n0+1 - n0=1 by omega]
   rfl
  ·
   simp only [finY]
   rw [List.set_append_right _ _ (by rw [len,lenX];omega),len,lenX,show n0+1 - n0=1 by omega]
   exact awpI_ret (hstop j x D _ hsc)
end
end Go.Cw

namespace Go.Cw
open Go Go.Abs
def bRow (b:Bool):List AV:=[.val (.bool b)]
section
variable {fmt:Int→qad}
theorem occ_take {procs:List Proc} {s:List Pr} {l:List Txn} {n:Nat} (h:n<l.length):qdo fmt procs s (l.take (n+1))=occStep fmt procs s (qdo fmt procs s (l.take n)) l[n]:=by
 rw [List.take_succ_eq_append_getElem h,occ_snoc]
theorem occ_len {procs:List Proc} {s:List Pr}:∀ (l:List Txn),(qdo fmt procs s l).2.1.length=l.length∧(qdo fmt procs s l).2.2.length=l.length:=by
 refine snoc_ind ⟨rfl,rfl⟩ fun l t ih=>?_
 rw [occ_snoc,occStep]
 split<;>simp [ih]
theorem occ_lenN {procs:List Proc} {s:List Pr} {l:List Txn} {n:Nat} (h:n≤l.length):(qdo fmt procs s (l.take n)).2.1.length=n∧(qdo fmt procs s (l.take n)).2.2.length=n:=by
 have:=occ_len (fmt:=fmt) (procs:=procs) (s:=s) (l.take n)
 rw [List.length_take,Nat.min_eq_left h] at this
 exact this
theorem specS_len {procs:List Proc} {s:List Pr} (l:List Txn):(specS fmt procs s l).length=l.length:=by simp [specS]
def occF (fmt:Int→qad) (procs:List Proc) (s:List Pr) (l:List Txn) (n:Nat):List Eff:=(qdo fmt procs s (l.take n)).2.1++(specS fmt procs s l).drop n
def occG (fmt:Int→qad) (procs:List Proc) (s:List Pr) (l:List Txn) (n:Nat):List Bool:=(qdo fmt procs s (l.take n)).2.2++List.replicate (l.length - n) false
theorem occF_0 (procs:List Proc) (s:List Pr) (l:List Txn):occF fmt procs s l 0=specS fmt procs s l:=by simp [occF,qdo]
theorem occG_0 (procs:List Proc) (s:List Pr) (l:List Txn):occG fmt procs s l 0=List.replicate l.length false:=by simp [occG,qdo]
theorem occF_end (procs:List Proc) (s:List Pr) (l:List Txn):occF fmt procs s l l.length=(qdo fmt procs s l).2.1:=by
 unfold occF
 rw [List.drop_eq_nil_of_le (by rw [specS_len];exact Nat.le_refl _),List.take_length,List.append_nil]
theorem occG_end (procs:List Proc) (s:List Pr) (l:List Txn):occG fmt procs s l l.length=(qdo fmt procs s l).2.2:=by simp [occG]
theorem occF_len {procs:List Proc} {s:List Pr} {l:List Txn} {n:Nat} (h:n≤l.length):(occF fmt procs s l n).length=l.length:=by
 simp [occF,(occ_lenN (fmt:=fmt) (procs:=procs) (s:=s) h).1,specS_len];omega
theorem occG_len {procs:List Proc} {s:List Pr} {l:List Txn} {n:Nat} (h:n≤l.length):(occG fmt procs s l n).length=l.length:=by
 simp [occG,(occ_lenN (fmt:=fmt) (procs:=procs) (s:=s) h).2];omega
theorem occF_get {procs:List Proc} {s:List Pr} {l:List Txn} {n:Nat} (h:n<l.length):(occF fmt procs s l n)[n]?=some (oneS fmt procs s l[n]).2:=by
 have hl:=(occ_lenN (fmt:=fmt) (procs:=procs) (s:=s) (Nat.le_of_lt h)).1
 unfold occF
 rw [List.getElem?_append_right (by omega),hl,Nat.sub_self,List.getElem?_drop,specS,List.getElem?_map]
 simp [h]
theorem occF_take {procs:List Proc} {s:List Pr} {l:List Txn} {n:Nat} (h:n≤l.length):(occF fmt procs s l n).take n=(qdo fmt procs s (l.take n)).2.1:=by
 have hl:=(occ_lenN (fmt:=fmt) (procs:=procs) (s:=s) h).1
 unfold occF
 rw [List.take_append_of_le_length (by omega),List.take_of_length_le (by omega)]
theorem replace_mid {α:Type} {A B:List α} {x y:α}:(A++x::B).set A.length y=A++y::B:=by
 rw [List.set_append_right _ _ (Nat.le_refl _)];simp
theorem spec_drop {procs:List Proc} {s:List Pr} {l:List Txn} {n:Nat} (h:n<l.length):(specS fmt procs s l).drop n=(oneS fmt procs s l[n]).2::(specS fmt procs s l).drop (n+1):=by
 rw [List.drop_eq_getElem_cons (by rw [specS_len];exact h)]
 simp [specS]
theorem rep_drop {m n:Nat} (h:n<m):List.replicate (m - n) false=false::List.replicate (m - (n+1)) false:=by
 rw [show m - n=(m - (n+1))+1 by omega,List.replicate_succ]
theorem occ_stepOk {procs:List Proc} {s:List Pr} {l:List Txn} {n:Nat} (h:n<l.length) (hv:validO (oneS fmt procs s l[n]).2 (qdo fmt procs s (l.take n)).2.1=true) :
  occF fmt procs s l (n+1)=occF fmt procs s l n∧occG fmt procs s l (n+1)=occG fmt procs s l n∧(qdo fmt procs s (l.take (n+1))).1=qb5 (qdo fmt procs s (l.take n)).1 (oneS fmt procs s l[n]).2:=by
 unfold occF occG
 rw [occ_take h,occStep,if_pos hv,spec_drop h,rep_drop h]
 simp
theorem occ_stepAgain {procs:List Proc} {s:List Pr} {l:List Txn} {n:Nat} (h:n<l.length) (hv:¬ validO (oneS fmt procs s l[n]).2 (qdo fmt procs s (l.take n)).2.1=true) :
  occF fmt procs s l (n+1)=(occF fmt procs s l n).set n (oneS fmt procs (qdo fmt procs s (l.take n)).1 l[n]).2∧occG fmt procs s l (n+1)=(occG fmt procs s l n).set n true ∧
   (qdo fmt procs s (l.take (n+1))).1=qb5 (qdo fmt procs s (l.take n)).1 (oneS fmt procs (qdo fmt procs s (l.take n)).1 l[n]).2:=by
 obtain ⟨h1,h2⟩:=occ_lenN (fmt:=fmt) (procs:=procs) (s:=s) (Nat.le_of_lt h)
 unfold occF occG
 rw [occ_take h,occStep,if_neg hv,spec_drop h,rep_drop h]
 have e1:∀ y B,((qdo fmt procs s (l.take n)).2.1++(oneS fmt procs s l[n]).2::B).set n y=(qdo fmt procs s (l.take n)).2.1++y::B:=fun y B=>by
  have:=replace_mid (A:=(qdo fmt procs s (l.take n)).2.1) (B:=B) (x:=(oneS fmt procs s l[n]).2) (y:=y)
  rwa [h1] at this
 have e2:∀ B,((qdo fmt procs s (l.take n)).2.2++false::B).set n true=(qdo fmt procs s (l.take n)).2.2++true::B:=fun B=>by
  have:=replace_mid (A:=(qdo fmt procs s (l.take n)).2.2) (B:=B) (x:=false) (y:=true)
  rwa [h2] at this
 rw [e1,e2]
 simp
theorem occ_stepState {procs:List Proc} {s:List Pr} {l:List Txn} (hs:rngL s) (hB:BatchIn fmt procs l) (n:Nat) (h:n≤l.length):rngL (qdo fmt procs s (l.take n)).1∧(qdo fmt procs s (l.take n)).1.length≤s.length+64 * n:=by
 have h1:=(occ_serial hs (l.take n) (hB.take n)).1
 have h2:=round_ok hs (l.take n) (hB.take n)
 rw [h1]
 refine ⟨h2.rng,?_⟩
 have:=h2.len
 rw [List.length_take,Nat.min_eq_left h] at this
 exact this
theorem spec_next {procs:List Proc} {s:List Pr} {l:List Txn} {n:Nat} (h:n<l.length):specS fmt procs s (l.take (n+1))=specS fmt procs s (l.take n)++[(oneS fmt procs s l[n]).2]:=by
 rw [List.take_succ_eq_append_getElem h]
 unfold specS
 rw [List.map_append]
 rfl
theorem runIn_one {procs:List Proc} {l:List Txn} {s:List Pr} (hB:BatchIn fmt procs l) (hs:rngL s) {t:Txn} (ht:t∈l):∀ p,findP procs t=some p→RunIn fmt p t.args s:=fun p hp=>⟨hB.fmt,hB.body p (findP_mem hp).1,hB.args t ht,hs⟩
end
end Go.Cw

namespace Go.Cw
open Go Go.Abs
section
variable {C:Cfg}
theorem EvSim.okI {x:EV} {v w:V} {s:MS} {m:RM} (h:Sim s m) (hx:x=.ok v) (hw:w=v):EvSim (x,s) (w,m):=by subst hx hw;exact ⟨rfl,h⟩
theorem sim_got {s':MS} {m':RM} (h:Sim s' m') (op:Int) (v:V) (hop:op=22∨op=23∨op=24) :
  EvSim (gotS op v,s') (if op=24 then (vB (!decide (v.k=0)),m') else if v.k=0 then (⟨if op=23 then 2 else 1,0,em⟩,m') else if v.k≠(if op=23 then 2 else 1) then (V.nil,m'.ab 1003) else (v,m')):=by
 rcases hop with rfl | rfl | rfl
 ·
  by_cases h0:v.k=0
  ·
   simp only [gotS,h0]
   exact .okI h rfl rfl
  ·
   by_cases h1:v.k=1
   ·
    simp only [gotS,h1]
    exact .okI h rfl rfl
   ·
    simp [gotS,h0,h1]
    exact .ab h
 ·
  by_cases h0:v.k=0
  ·
   simp only [gotS,h0]
   exact .okI h rfl rfl
  ·
   by_cases h1:v.k=2
   ·
    simp only [gotS,h1]
    exact .okI h rfl rfl
   ·
    simp [gotS,h0,h1]
    exact .ab h
 ·
  simp only [gotS]
  exact .okI h rfl rfl
theorem sim_one {s:MS} {m:RM} (h:Sim s m) {op:Int} {a:V} (ha:okX a) (hr:qdh a) (hf:∀ n,i64 n→qa6 (C.fmt n)=true) (hop:op=9∨op=18∨op=20∨op=21∨op=22∨op=23∨op=24):EvSim (unS C op a s) (oneR C m op a):=by
 have hfe:a.k=2→(op=22∨op=23∨op=24)→EvSim (unS C op a s) (oneR C m op a):=by
  intro hk ho
  have hf:=sim_fetch (C:=C) h a.s
  have hw:wantR op=2:=by rcases ho with rfl | rfl | rfl<;>rfl
  have e1:unS C op a s=match qb9 C a.s s with
   | (.error z,m')=>(.error z,m')
   | (.ok v,m')=>(gotS op v,m'):=by
   unfold unS
   rw [if_neg (by omega),if_neg (by omega),if_neg (by omega),if_neg (by omega),if_neg (by simp [hk])]
   rfl
  have e2:oneR C m op a=if (qbh C m a.s).2.st≠0 then (V.nil,(qbh C m a.s).2) else if op=24 then (vB (!decide ((qbh C m a.s).1.k=0)),(qbh C m a.s).2) else if (qbh C m a.s).1.k=0 then (⟨if op=23 then 2 else 1,0,em⟩,(qbh C m a.s).2) else if (qbh C m a.s).1.k≠(if op=23 then 2 else 1) then (V.nil,(qbh C m a.s).2.ab 1003) else ((qbh C m a.s).1,(qbh C m a.s).2):=by
   unfold oneR
   rw [if_neg (by rw [hw];simp [hk]),if_neg (by omega),if_neg (by omega),if_neg (by omega),if_neg (by omega)]
  rw [e1,e2]
  rcases hx:qb9 C a.s s with ⟨z | v,s'⟩<;>rw [hx] at hf
  ·
   have hf:(qbh C m a.s).1=V.nil∧Dead z s' (qbh C m a.s).2:=hf
   rw [if_pos (by rw [hf.2.st];exact hf.2.ne)]
   exact ⟨rfl,hf.2⟩
  ·
   have hf:(qbh C m a.s).1=v∧Sim s' (qbh C m a.s).2:=hf
   rw [if_neg (by rw [hf.2.st];simp),hf.1]
   exact sim_got hf.2 op v ho
 rcases hop with rfl | rfl | rfl | rfl | ho
 ·
  by_cases hk:a.k=1
  · simpa [unS,oneR,wantR,hk] using sim_calc h (qdi a.n)
  · simpa [unS,oneR,wantR,hk] using (EvSim.ab (c:=1009) h)
 ·
  by_cases hk:a.k=3
  · simpa [unS,oneR,wantR,hk] using (EvSim.ok (v:=vB (decide (a.n=0))) h)
  · simpa [unS,oneR,wantR,hk] using (EvSim.ab (c:=1009) h)
 ·
  by_cases hk:a.k=1
  ·
   have hp:=hf _ hr.1
   unfold qa6 at hp
   simp only [Bool.and_eq_true,decide_eq_true_eq] at hp
   have ht:textS (C.fmt a.n)=.ok (vS (C.fmt a.n)):=by unfold textS;rw [if_neg (by omega)]
   simpa [unS,oneR,wantR,hk,ht] using (EvSim.ok (v:=vS (C.fmt a.n)) h)
  · simpa [unS,oneR,wantR,hk] using (EvSim.ab (c:=1009) h)
 ·
  by_cases hk:a.k=2
  · simpa [unS,oneR,wantR,hk] using (EvSim.ok (v:=vI a.s.size) h)
  · simpa [unS,oneR,wantR,hk] using (EvSim.ab (c:=1009) h)
 ·
  by_cases hk:a.k=2
  · exact hfe hk ho
  ·
   have e1:unS C op a s=(.error (ab 1009),s):=by
    unfold unS
    rw [if_neg (by omega),if_neg (by omega),if_neg (by omega),if_neg (by omega),if_pos (by simp [hk])]
   have hw:wantR op=2:=by rcases ho with rfl | rfl | rfl<;>rfl
   have e2:oneR C m op a=(V.nil,m.ab 1009):=by
    unfold oneR
    rw [if_pos (by rw [hw];simp [hk])]
   rw [e1,e2]
   exact .ab h
theorem sim_op {s:MS} {m:RM} (h:Sim s m) {op:Int} {l:List V} (hl:∀ v∈l,okX v) (hr:∀ v∈l,qdh v) (hf:∀ n,i64 n→qa6 (C.fmt n)=true) (har:(l.length:Int)=qby op):EvSim (opS C op l s) (opR C m op l):=by
 match l with
 | []=>exact .ab h
 | [a] =>
  refine sim_one h (hl a (by simp)) (hr a (by simp)) hf ?_
  unfold qby at har
  simp at har
  split at har
  · omega
  split at har
  · omega
  split at har
  · omega
  · omega
 | [a,b] =>
  refine sim_two h (hl a (by simp)) (hl b (by simp)) ?_
  unfold qby at har
  simp at har
  split at har
  · omega
  split at har
  · omega
  split at har
  · omega
  · omega
 | a::b::c::r=>exact .ab h
section
variable (hV:vC C) (hC:rngC C)
include hV hC
mutual
theorem sim_ev:∀ (e:Ex) (d:Nat) (s:MS) (m:RM),chkE e d=0→rngX e→vM s→rngM s→ascS s.reads→Sim s m→EvSim (evE C e s) (evR C e m)
 | .mk op n x args,d,s,m,hc,hR,hM,hr,ha,h=>by
  have har:=qd0 hc
  have hR':=(qd9 _).1 hR
  simp only [Ex.args,Ex.op,Ex.n,Ex.s] at har hR'
  rw [chkE] at hc
  by_cases hn:qb7 op n x args.length d=0
  ·
   rw [if_pos hn] at hc
   rw [evE,evR]
   by_cases h1:op=1
   · rw [if_pos h1,if_pos h1];exact .ok h
   rw [if_neg h1,if_neg h1]
   by_cases h2:op=2
   · rw [if_pos h2,if_pos h2];exact .ok h
   rw [if_neg h2,if_neg h2]
   by_cases h3:op=3
   ·
    rw [if_pos h3,if_pos h3]
    have hv:=h.vars x
    by_cases hp:hasP m.vars x=true
    ·
     rw [if_pos hp] at hv
     rw [hv,if_pos hp]
     exact .ok h
    ·
     rw [if_neg hp] at hv
     rw [hv,if_neg hp]
     exact .ab h
   rw [if_neg h3,if_neg h3]
   have hS:=sim_evL args (d+1) s m hc hR'.2 hM hr ha h
   have hE:=evL_ok hC args s hR'.2 hr ha
   rcases hL:evL C args s with ⟨z | l,s'⟩
   ·
    rw [hL] at hS
    have hS:Dead z s' (evRL C args m).2:=hS
    simp only
    rw [if_pos (by rw [hS.st];exact hS.ne)]
    exact ⟨rfl,hS⟩
   ·
    rw [hL] at hS hE
    have hS:(evRL C args m).1=l∧Sim s' (evRL C args m).2:=hS
    simp only
    rw [if_neg (by rw [hS.2.st];simp),hS.1]
    have hl:=okX_evL hV hC args (d+1) s s' l hc hR'.2 hM hr ha hL
    exact sim_op hS.2 hl (hE.2 l rfl) hV.fmt (by rw [evL_len hL];exact har)
  ·
   rw [if_neg hn] at hc
   exact (hn hc).elim
theorem sim_evL:∀ (l:List Ex) (d:Nat) (s:MS) (m:RM),chkL l d=0→(∀ x∈l,rngX x)→vM s→rngM s→ascS s.reads→Sim s m →
  (match (evL C l s).1 with
   | .ok r=>(evRL C l m).1=r∧Sim (evL C l s).2 (evRL C l m).2
   | .error z=>Dead z (evL C l s).2 (evRL C l m).2)
 | [],d,s,m,_,_,_,_,_,h=>by rw [evL,evRL];exact ⟨rfl,h⟩
 | e::l,d,s,m,hc,hR,hM,hr,ha,h=>by
  rw [chkL] at hc
  split at hc
  ·
   rename_i h0
   have hE':=evE_ok hC e s (hR e (by simp)) hr ha
   have hS:=sim_ev e d s m h0 (hR e (by simp)) hM hr ha h
   rw [evL,evRL]
   rcases hE:evE C e s with ⟨z | v,s'⟩
   ·
    rw [hE] at hS
    have hS:(evR C e m).1=V.nil∧Dead z s' (evR C e m).2:=hS
    simp only
    rw [if_pos (by rw [hS.2.st];exact hS.2.ne)]
    exact hS.2
   ·
    rw [hE] at hS hE'
    have hS:(evR C e m).1=v∧Sim s' (evR C e m).2:=hS
    simp only
    rw [if_neg (by rw [hS.2.st];simp)]
    have hT:=sim_evL l d s' (evR C e m).2 hc (fun x hx=>hR x (by simp [hx])) (vM_ev hE'.1 hM) (hE'.1.rng hr) hE'.1.asc hS.2
    rcases hL:evL C l s' with ⟨z | r,s''⟩
    ·
     rw [hL] at hT
     exact hT
    ·
     rw [hL] at hT
     have hT:(evRL C l (evR C e m).2).1=r∧Sim s'' (evRL C l (evR C e m).2).2:=hT
     exact ⟨by rw [hS.1,hT.1],hT.2⟩
  · contradiction
end
end
end
end Go.Cw

namespace Go.Cw
open Go Go.Abs
abbrev Vis:=List (qad×Int)
def subV (a b:Vis):Prop:=∀ k ty,qbs a k=some ty→qbs b k=some ty
theorem subV.refl (a:Vis):subV a a:=fun _ _ h=>h
theorem subV.trans {a b c:Vis} (h:subV a b) (g:subV b c):subV a c:=fun k ty e=>g k ty (h k ty e)
def qb8 {α:Type} (l:List (qad×α)):List qad:=l.map (·.1)
theorem qc2 {α:Type}:∀ {l:List (qad×α)} {k:qad},qbs l k=none↔k∉qb8 l
 | [],k=>by simp [qbs,qb8]
 | p::l,k=>by
  have ih:=qc2 (l:=l) (k:=k)
  simp only [qbs,qb8,List.map_cons,List.mem_cons,not_or] at ih ⊢
  by_cases h:p.1=k
  · simp [h]
  ·
   rw [if_neg h,ih]
   exact ⟨fun g=>⟨fun e=>h e.symm,g⟩,fun g=>g.2⟩
theorem qcs {α:Type}:∀ (l:List (qad×α)) (k:qad) (v:α) (x:qad),x∈qb8 (qce l k v)↔x=k∨x∈qb8 l
 | [],k,v,x=>by simp [qce,qb8]
 | p::l,k,v,x=>by
  have ih:=qcs l k v x
  rw [qce]
  split
  ·
   rename_i h
   subst h
   simp [qb8]
  ·
   simp only [qb8,List.map_cons,List.mem_cons] at ih ⊢
   rw [ih]
   constructor
   · rintro (h | h | h)<;>simp [h]
   · rintro (h | h | h)<;>simp [h]
theorem nodV_set {α:Type}:∀ (l:List (qad×α)) (k:qad) (v:α),(qb8 l).Nodup→(qb8 (qce l k v)).Nodup
 | [],k,v,_=>by simp [qce,qb8]
 | p::l,k,v,h=>by
  have h':p.1∉qb8 l∧(qb8 l).Nodup:=List.nodup_cons.1 h
  rw [qce]
  split
  ·
   rename_i e
   subst e
   exact h
  ·
   rename_i e
   refine List.nodup_cons.2 ⟨fun hm=>?_,nodV_set l k v h'.2⟩
   rcases (qcs l k v _).1 hm with e' | hm
   · exact e e'
   · exact h'.1 hm
theorem kDel_sub {α:Type}:∀ (l:List (qad×α)) (k:qad),(kDel l k).Sublist l
 | [],_=>by simp [kDel]
 | p::l,k=>by
  rw [kDel]
  split
  · exact List.sublist_cons_self _ _
  · exact (kDel_sub l k).cons₂ _
theorem kGet_of_mem {α:Type}:∀ {l:List (qad×α)} {k:qad} {v:α},(qb8 l).Nodup→(k,v)∈l→qbs l k=some v
 | p::l,k,v,hd,h=>by
  have hd':p.1∉qb8 l∧(qb8 l).Nodup:=List.nodup_cons.1 hd
  rw [qbs]
  rcases List.mem_cons.1 h with rfl | h
  · simp
  ·
   rw [if_neg]
   · exact kGet_of_mem hd'.2 h
   ·
    intro e
    exact hd'.1 (List.mem_map.2 ⟨(k,v),h,e.symm⟩)
structure TOk (ts:TS):Prop where
 nod:(qb8 ts.visible).Nodup
 sub:subV ts.visible ts.all
theorem TOk.del {ts:TS} (h:TOk ts) (k:qad):TOk ⟨kDel ts.visible k,ts.loops,ts.all⟩:=⟨h.nod.sublist ((kDel_sub _ _).map _),fun x ty e=>h.sub x ty (by
 have:=(kDel_sub ts.visible k).subset (kGet_mem e)
 exact kGet_of_mem h.nod this)⟩
theorem TOk.dels (b:List (qad×Bool)) (a:Vis):∀ (l:List St) {vis:Vis},TOk ⟨vis,b,a⟩→TOk ⟨delLets l vis,b,a⟩
 | [],vis,h=>h
 | t::l,vis,h=>by
  rw [delLets]
  refine TOk.dels b a l ?_
  split
  · exact h.del t.name
  · exact h
theorem TOk.set {ts:TS} (h:TOk ts) (k:qad) (ty:Int) (lp:List (qad×Bool)):TOk ⟨qce ts.visible k ty,lp,qce ts.all k ty⟩:=⟨nodV_set _ _ _ h.nod,fun x u e=>by
 simp only at e ⊢
 rw [qcc] at e ⊢
 split at e
 · rename_i hk;rw [if_pos hk];exact e
 · rename_i hk;rw [if_neg hk];exact h.sub x u e⟩
mutual
def nmS:St→List qad
 | .mk op name _ _ _ body els=>(if op=1∨op=6 then [name] else [])++(nmL body++nmL els)
def nmL:List St→List qad
 | []=>[]
 | t::l=>nmS t++nmL l
end
theorem nmS_eq (t:St):nmS t=(if t.op=1∨t.op=6 then [t.name] else [])++(nmL t.body++nmL t.els):=by cases t;rw [nmS];rfl
structure TGo (ns:List qad) (ts ts':TS):Prop where
 ok:TOk ts'
 mono:subV ts.all ts'.all
 keys:∀ k,k∈qb8 ts'.all→k∈qb8 ts.all∨k∈ns
theorem TGo.refl {ts:TS} (h:TOk ts) (ns:List qad):TGo ns ts ts:=⟨h,.refl _,fun _ h=>.inl h⟩
theorem TGo.mono' {ns ns':List qad} {ts ts':TS} (h:TGo ns ts ts') (hn:∀ k∈ns,k∈ns'):TGo ns' ts ts':=⟨h.ok,h.mono,fun k hk=>(h.keys k hk).imp id (hn k)⟩
theorem TGo.trans {a b:List qad} {s t u:TS} (h:TGo a s t) (g:TGo b t u):TGo (a++b) s u:=⟨g.ok,h.mono.trans g.mono,fun k hk=>by
 rcases g.keys k hk with hk | hk
 ·
  rcases h.keys k hk with hk | hk
  · exact .inl hk
  · exact .inr (by simp [hk])
 · exact .inr (by simp [hk])⟩
def fresh (ns:List qad) (ts:TS):Prop:=ns.Nodup∧∀ k∈ns,k∉qb8 ts.all
theorem TGo.set {ts:TS} (h:TOk ts) {k:qad} (hk:k∉qb8 ts.all) (ty:Int) (lp:List (qad×Bool)):TGo [k] ts ⟨qce ts.visible k ty,lp,qce ts.all k ty⟩:=⟨h.set k ty lp,fun x u e=>by
 simp only
 rw [qcc]
 split
 ·
  rename_i hx
  subst hx
  rw [qc2.2 hk] at e;cases e
 · exact e,fun x hx=>by
 rcases (qcs _ _ _ _).1 hx with h | h
 · exact .inr (by simp [h])
 · exact .inl h⟩
theorem fresh.left {a b:List qad} {ts:TS} (h:fresh (a++b) ts):fresh a ts:=⟨(List.nodup_append.1 h.1).1,fun k hk=>h.2 k (by simp [hk])⟩
theorem fresh.right {a b:List qad} {ts ts':TS} (h:fresh (a++b) ts) (g:TGo a ts ts'):fresh b ts':=⟨(List.nodup_append.1 h.1).2.1,fun k hk hm=>by
 rcases g.keys k hm with hm | hm
 · exact h.2 k (by simp [hk]) hm
 · exact (List.nodup_append.1 h.1).2.2 k hm k hk rfl⟩
theorem TGo.blk {ns:List qad} {l:List St} {f:TS→Int×TS} {ts:TS} (hf:(f ts).1=0→TGo ns ts (f ts).2) (h0:(qb6 l f ts).1=0):TGo ns ts (qb6 l f ts).2:=by
 unfold qb6 at h0 ⊢
 split at h0
 · rename_i h;exact (h h0).elim
 ·
  rename_i h
  rw [if_neg h]
  have g:=hf (by simpa using h)
  exact ⟨TOk.dels _ _ l (vis:=(f ts).2.visible) g.ok,g.mono,g.keys⟩
theorem go_step (t:St) (B E:TS→Int×TS) (ts:TS) (h:TOk ts) (hf:fresh (nmS t) ts)
  (hB:∀ ts,TOk ts→fresh (nmL t.body) ts→(B ts).1=0→TGo (nmL t.body) ts (B ts).2)
  (hE:∀ ts,TOk ts→fresh (nmL t.els) ts→(E ts).1=0→TGo (nmL t.els) ts (E ts).2)
  (h0:(stStep t B E ts).1=0):TGo (nmS t) ts (stStep t B E ts).2:=by
 rw [nmS_eq] at hf ⊢
 unfold stStep at h0 ⊢
 by_cases he:(qc1 ts.visible t).2.2≠0
 · rw [if_pos he] at h0;exact (he h0).elim
 rw [if_neg he] at h0 ⊢
 by_cases h1:t.op=1
 ·
  rw [if_pos h1] at h0 ⊢
  rw [if_pos (.inl h1)] at hf ⊢
  exact (TGo.set h (hf.2 t.name (by simp)) _ _).mono' (fun k hk=>by simp at hk;simp [hk])
 rw [if_neg h1] at h0 ⊢
 by_cases h2:t.op=2
 ·
  rw [if_pos h2]
  rcases qbs ts.visible t.name with _ | ty
  · exact .refl h _
  · exact .refl h _
 rw [if_neg h2] at h0 ⊢
 by_cases h3:t.op=3
 · rw [if_pos h3];exact .refl h _
 rw [if_neg h3] at h0 ⊢
 by_cases h4:t.op=4
 · rw [if_pos h4];exact .refl h _
 rw [if_neg h4] at h0 ⊢
 by_cases h7:t.op=7
 · rw [if_pos h7];exact .refl h _
 rw [if_neg h7] at h0 ⊢
 by_cases h5:t.op=5
 ·
  rw [if_pos h5] at h0 ⊢
  by_cases h6:(qc1 ts.visible t).1≠3
  · rw [if_pos h6] at h0;simp at h0
  rw [if_neg h6] at h0 ⊢
  by_cases h8:(qb6 t.body B ts).1≠0
  · rw [if_pos h8] at h0;exact (h8 h0).elim
  rw [if_neg h8] at h0 ⊢
  rw [if_neg (by omega),List.nil_append] at hf ⊢
  have g1:=TGo.blk (l:=t.body) (fun g=>hB ts h hf.left g) (by simpa using h8)
  have g2:=TGo.blk (l:=t.els) (fun g=>hE _ g1.ok (hf.right g1) g) h0
  exact g1.trans g2
 rw [if_neg h5] at h0 ⊢
 by_cases h6:t.op=6
 ·
  rw [if_pos h6] at h0 ⊢
  by_cases h8:(qc1 ts.visible t).1≠1∨(qc1 ts.visible t).2.1≠1
  · rw [if_pos h8] at h0;simp at h0
  rw [if_neg h8] at h0 ⊢
  rw [if_pos (.inr h6)] at hf ⊢
  have g0:=TGo.set h (hf.2 t.name (by simp)) 1 (qce ts.loops t.name true)
  have g1:=TGo.blk (l:=t.body) (fun g=>hB _ g0.ok (hf.right g0).left g) h0
  have g2:=g0.trans g1
  exact ⟨g1.ok.del t.name,g2.mono,fun k hk=>by
   rcases g2.keys k hk with hk | hk
   · exact .inl hk
   ·
    refine .inr ?_
    simp only [List.mem_append] at hk ⊢
    rcases hk with hk | hk
    · exact .inl hk
    · exact .inr (.inl hk)⟩
 ·
  rw [if_neg h6]
  exact .refl h _
mutual
theorem go_st:∀ (t:St) (ts:TS),TOk ts→fresh (nmS t) ts→(stT t ts).1=0→TGo (nmS t) ts (stT t ts).2
 | .mk op name mx a b body els,ts,h,hf,h0=>by
  rw [stT_eq] at h0 ⊢
  exact go_step (.mk op name mx a b body els) _ _ ts h hf (fun ts=>go_seq body ts) (fun ts=>go_seq els ts) h0
theorem go_seq:∀ (l:List St) (ts:TS),TOk ts→fresh (nmL l) ts→(qc9 l ts).1=0→TGo (nmL l) ts (qc9 l ts).2
 | [],ts,h,hf,h0=>by rw [qc9];exact .refl h _
 | t::l,ts,h,hf,h0=>by
  rw [qc9] at h0 ⊢
  rw [nmL] at hf ⊢
  split at h0
  · rename_i he;exact (he h0).elim
  rename_i he
  rw [if_neg he]
  have g1:=go_st t ts h hf.left (by simpa using he)
  exact g1.trans (go_seq l _ g1.ok (hf.right g1) h0)
end
def tyS (G:Vis) (s:MS):Prop:=∀ k v ty,qbs s.vars k=some v→qbs G k=some ty→v.k=ty
def qbc (op:Int):Int:=if 10≤op∧op≤15 then 3 else (qcd op).2
theorem kind_exact {r:Int×Int} {v:V} (h:qca r=.ok v):v.k=1:=by
 unfold qca at h
 split at h
 · cases h;rfl
 · split at h<;>cases h
theorem kind_text {s:qad} {v:V} (h:textS s=.ok v):v.k=2:=by
 unfold textS at h
 split at h
 · cases h
 · cases h;rfl
section
variable {C:Cfg}
theorem kind_op {op:Int} {l:List V} {s t:MS} {v:V} (har:(l.length:Int)=qby op) (h:opS C op l s=(.ok v,t)):v.k=qbc op:=by
 have hy:∀ {x:EV} {u:MS},(x,u)=((.ok v,t):EV×MS)→x=.ok v:=fun h=>congrArg Prod.fst h
 unfold opS at h
 split at h
 ·
  rename_i a
  have hop:op=9∨op=18∨op=20∨op=21∨op=22∨op=23∨op=24:=by
   unfold qby at har
   simp at har
   split at har
   · omega
   split at har
   · omega
   split at har
   · omega
   · omega
  rcases hop with rfl | rfl | rfl | rfl | ho
  ·
   have e:unS C 9 a s=(if a.k=1 then qca (qdi a.n) else .error (ab 1009),s):=rfl
   rw [e] at h
   have h:=hy h
   split at h
   · exact kind_exact h
   · cases h
  ·
   have e:unS C 18 a s=(if a.k=3 then .ok (vB (decide (a.n=0))) else .error (ab 1009),s):=rfl
   rw [e] at h
   have h:=hy h
   split at h
   · cases h;rfl
   · cases h
  ·
   have e:unS C 20 a s=(if a.k=1 then textS (C.fmt a.n) else .error (ab 1009),s):=rfl
   rw [e] at h
   have h:=hy h
   split at h
   · exact kind_text h
   · cases h
  ·
   have e:unS C 21 a s=(if a.k=2 then .ok (vI a.s.size) else .error (ab 1009),s):=rfl
   rw [e] at h
   have h:=hy h
   split at h
   · cases h;rfl
   · cases h
  ·
   unfold unS at h
   rw [if_neg (by omega),if_neg (by omega),if_neg (by omega),if_neg (by omega)] at h
   by_cases hk:a.k≠2
   · rw [if_pos hk] at h;cases h
   rw [if_neg hk] at h
   rcases hx:qb9 C a.s s with ⟨z | w,m'⟩
   · rw [hx] at h;cases h
   ·
    rw [hx] at h
    have h:=hy h
    rcases ho with rfl | rfl | rfl
    ·
     have e:gotS 22 w=if w.k=0 then .ok (vI 0) else if w.k≠1 then .error (ab 1003) else .ok w:=by simp [gotS]
     rw [e] at h
     split at h
     · cases h;rfl
     split at h
     · cases h
     ·
      rename_i h2
      have hv:w=v:=by injection h
      have:w.k=1:=by omega
      rw [← hv,this];rfl
    ·
     have e:gotS 23 w=if w.k=0 then textS em else if w.k≠2 then .error (ab 1003) else .ok w:=by simp [gotS]
     rw [e] at h
     split at h
     · exact kind_text h
     split at h
     · cases h
     ·
      rename_i h2
      have hv:w=v:=by injection h
      have:w.k=2:=by omega
      rw [← hv,this];rfl
    ·
     have e:gotS 24 w=.ok (vB (!decide (w.k=0))):=by simp [gotS]
     rw [e] at h
     cases h;rfl
 ·
  rename_i a b
  have g:=hy h
  clear h hy
  have hop:(4≤op∧op≤8)∨(10≤op∧op≤17)∨op=19:=by
   unfold qby at har
   simp at har
   split at har
   · omega
   split at har
   · omega
   split at har
   · omega
   · omega
  unfold binS at g
  by_cases ho:op=4∨op=5∨op=6∨op=7∨op=8
  ·
   rw [if_pos ho] at g
   have:qbc op=1:=by unfold qbc qcd;rw [if_neg (by omega),if_pos (by omega)]
   rw [this]
   split at g
   ·
    unfold qd2 at g
    repeat' split at g
    all_goals exact kind_exact g
   · cases g
  rw [if_neg ho] at g
  by_cases h16:op=16
  ·
   rw [if_pos h16] at g
   rw [h16]
   split at g
   · cases g;rfl
   · cases g
  rw [if_neg h16] at g
  by_cases h17:op=17
  ·
   rw [if_pos h17] at g
   rw [h17]
   split at g
   · cases g;rfl
   · cases g
  rw [if_neg h17] at g
  by_cases h19:op=19
  ·
   rw [if_pos h19] at g
   rw [h19]
   split at g
   · exact kind_text g
   · cases g
  rw [if_neg h19] at g
  unfold compS at g
  split at g
  ·
   cases g
   unfold qbc
   rw [if_pos (by omega)]
   rfl
  · cases g
 · cases h
theorem kind_ev {G vis:Vis} (hsub:subV vis G) {e:Ex} {d:Nat} {ty:Int} (hc:chkE e d=0) (hof:ofE vis e=(ty,0)) {s t:MS} {v:V} (hT:tyS G s) (h:evE C e s=(.ok v,t)):v.k=ty∧1≤ty∧ty≤3:=by
 have har:=qd0 hc
 rw [ofE_eq] at hof
 rw [evE_eq] at h
 have hk:∀ (op:Int),1≤(qcd op).2∧(qcd op).2≤3:=fun op=>by
  unfold qcd
  repeat' split
  all_goals decide
 by_cases h3:e.op=3
 ·
  rw [if_pos h3] at hof
  rw [if_neg (by omega),if_neg (by omega),if_pos h3] at h
  have h:=congrArg Prod.fst h
  simp only at h
  split at h
  ·
   rename_i w hw
   cases h
   unfold varT at hof
   split at hof
   · cases hof
   ·
    rename_i u hu
    split at hof
    · cases hof
    ·
     cases hof
     exact ⟨hT _ _ _ hw (hsub _ _ hu),by omega,by omega⟩
  · cases h
 ·
  rw [if_neg h3] at hof
  split at hof
  ·
   rename_i he
   have:=congrArg Prod.snd hof
   simp only at this
   exact (he this).elim
  have hty:ty=qbc e.op:=by
   unfold qbc
   split at hof
   ·
    rename_i ho
    split at hof
    · cases hof
    · cases hof;rw [if_pos ho]
   ·
    rename_i ho
    rw [if_neg ho]
    split at hof
    · cases hof;rfl
    · cases hof
  have hr:1≤ty∧ty≤3:=by
   rw [hty];unfold qbc;split
   · omega
   · exact hk _
  refine ⟨?_,hr⟩
  rw [hty]
  split at h
  ·
   rename_i h1
   cases h
   unfold qbc qcd
   rw [if_neg (by omega),if_pos (.inl h1)];rfl
  split at h
  ·
   rename_i h1
   cases h
   unfold qbc qcd
   rw [if_neg (by omega),if_neg (by omega),if_pos (.inl h1)];rfl
  split at h
  · cases h
  ·
   rename_i l m' hL
   exact kind_op (by rw [evL_len hL];exact har) h
end
end Go.Cw
