/- Part 26 of a proof: CwI, CwMv, CwMw, CwOc, CwMx, CwMz, CwNr, CwMu, CwW -/
import Derived.Test.YtcjolkgjhcdhcaaGreatDoorR17
import Derived.Test.YtcjolkgjhcdhcaaGreatDoorR21
import Derived.Test.YtcjolkgjhcdhcaaGreatDoorR25
set_option linter.all false

namespace Go.Cw
open Go Go.Abs
structure YH (P:Program) (l:Nat) (HF:Nat→qab) (HX:Nat→Ex→qab) (stop:Ex→Bool) (n0:Nat):Prop where
 len:∀ k,(HF k).length=n0
 lenX:∀ k x,(HX k x).length=n0
 und:∀ k,hUnder n0 (HF k)=true
 undX:∀ k x,hUnder n0 (HX k x)=true
 y:∀ k (x:Ex) (L:qab),AYield P l [.agg x.x] (HF k++L) fun r h'=>(stop x=true→r=.ret (Bo false)∧h'=HX k x++L)∧(stop x=false→r=.ret (Bo true)∧h'=HF (k+1)++L)
theorem YH.ext {P:Program} {l:Nat} {HF:Nat→qab} {HX:Nat→Ex→qab} {stop:Ex→Bool} {n0:Nat} (Y:YH P l HF HX stop n0) (L:qab) (hL:hUnder (n0+L.length) L=true):YH P l (fun k=>HF k++L) (fun k x=>HX k x++L) stop (n0+L.length) where
 len:=fun k=>by rw [List.length_append,Y.len]
 lenX:=fun k x=>by rw [List.length_append,Y.lenX]
 und:=fun k=>by rw [qaz,qa4 (by omega) (Y.und k),hL];rfl
 undX:=fun k x=>by rw [qaz,qa4 (by omega) (Y.undX k x),hL];rfl
 y:=fun k x L'=>by simpa [List.append_assoc] using Y.y k x (L++L')
def finY (HF:Nat→qab) (HX:Nat→Ex→qab) (r:Nat×Option Ex):qab:=match r.2 with
 | none=>HF r.1
 | some e=>HX r.1 e
def gM (ms:List (Option Nat)):qab:=ms.map fun | none=>.none | some D=>qd5 D
def dM (ms:List (Option Nat)):List Deferred:=(ms.filterMap id).reverse.map coll
def idxM:Nat→List (Option Nat)→List (Nat×Nat)
 | _,[]=>[]
 | k,none::l=>idxM (k+1) l
 | k,some D::l=>idxM (k+1) l++[(k,D)]
theorem idxM_coll:∀ (ms:List (Option Nat)) (k:Nat),(idxM k ms).map (fun p=>coll p.2)=dM ms
 | [],_=>rfl
 | none::l,k=>by simp only [idxM,idxM_coll l];rfl
 | some D::l,k=>by simp [idxM,idxM_coll l,dM]
theorem idxM_ge:∀ (ms:List (Option Nat)) (k:Nat) (p:Nat×Nat),p∈idxM k ms→k≤p.1∧p.1<k+ms.length∧(gM ms)[p.1 - k]?=some (qd5 p.2)
 | [],_,p,h=>by simp [idxM] at h
 | none::l,k,p,h=>by
  obtain ⟨h1,h2,h3⟩:=idxM_ge l (k+1) p h;refine ⟨by omega,by simp;omega,?_⟩;rw [show p.1 - k=(p.1 - (k+1))+1 by omega];exact h3
 | some D::l,k,p,h=>by
  rw [idxM,List.mem_append] at h;rcases h with h | h
  ·
   obtain ⟨h1,h2,h3⟩:=idxM_ge l (k+1) p h;refine ⟨by omega,by simp;omega,?_⟩;rw [show p.1 - k=(p.1 - (k+1))+1 by omega];exact h3
  ·
   simp at h;subst h;refine ⟨by simp,by simp,?_⟩;simp [gM]
theorem idxM_nodup:∀ (ms:List (Option Nat)) (k:Nat),((idxM k ms).map (·.1)).Nodup
 | [],_=>List.nodup_nil
 | none::l,k=>idxM_nodup l (k+1)
 | some D::l,k=>by
  rw [idxM,List.map_append,List.nodup_append];refine ⟨idxM_nodup l (k+1),by simp,fun a ha b hb=>?_⟩;rw [List.mem_map] at ha;obtain ⟨p,hp,rfl⟩:=ha;have:=(idxM_ge l (k+1) p hp).1;simp at hb;omega
theorem takeA:∀ (l:List (Nat×Nat)) (A Z:qab),(∀ p,p∈l→A.length≤p.1)→∃ Z',takeAll l (A++Z)=A++Z'
 | [],A,Z,_=>⟨Z,rfl⟩
 | p::l,A,Z,h=>by
  rw [takeAll,List.set_append_right _ _ (h p (by simp))];exact takeA l A _ fun q hq=>h q (by simp [hq])
theorem gM_app (a b:List (Option Nat)):gM (a++b)=gM a++gM b:=by simp [gM]
theorem dM_snoc (ms:List (Option Nat)) (D:Nat):dM (ms++[none,none,some D])=coll D::dM ms:=by simp [dM,List.filterMap_append]
theorem gM_und (ms:List (Option Nat)) (m:Nat):hUnder m (gM ms)=true:=by
 rw [hUnder_iff];intro o ho;simp only [gM,List.mem_map] at ho;obtain ⟨x,_,rfl⟩:=ho;cases x<;>rfl
section
variable {P:Program} {E:Ent} {p:Tmp} {asg body:Code}
def recA (E:Ent) (e:Env) (p:Tmp) (asg body:Code) (l D:Nat) (fn:FuncId) (st:LoopState) (pe:Option Code):AObj:=.raw l (recO st pe fn #[p] asg body D) (slots E.N e)
def roundJ (E:Ent) (idx:Nat) (r0 rb rd:AObj) (R:AEnd→qab→Prop):AExit→List Deferred→Env→Prop
 | .normal,_,e=>e.h[idx]?=some rb∧∃ h',Wk E ⟨[],e.h.set idx r0⟩ ⟨[],h'⟩∧R (.ret (.val (.bool true))) h'
 | .ret,_,e=>e.h[idx]?=some rb∧∃ h',Wk E ⟨[],e.h.set idx rd⟩ ⟨[],h'⟩∧R (.ret (.val (.bool false))) h'
 | _,_,_=>False
theorem awpI_rangeY {g:Operand} {gf:FuncId} {caps:List AV} {Q:AExit→List Deferred→Env→Prop} {ds:List Deferred} {e:Env} (hg:e.get g=.fn (.func gf) [] caps) (hcaps:∀ H,qbc H caps=caps)
  (B:Nat→qab) (X:Nat→Ex→qab) (stop:Ex→Bool) (xs:List Ex) (k n0:Nat) (hB:e.h=B k) (len:∀ j,(B j).length=n0) (lenX:∀ j x,(X j x).length=n0) (und:∀ j,hUnder n0 (B j)=true) (undX:∀ j x,hUnder n0 (X j x)=true)
  (hsl:qaw n0 (slots E.N e)=true) (hp:p<E.N)
  (hit:∀ (l:Nat) (L:qab) (HX:Nat→Ex→qab) (n1:Nat),YH P l (fun j=>B j++L) HX stop n1→ACalls P gf ([.fn (.yield l) [] []]++caps) (B k++L) fun r h'=>r=.ret (.tuple [])∧h'=finY (fun j=>B j++L) HX (scan stop xs k))
  (hround:∀ (E':Ent) (l D j:Nat) (x:Ex) (L:qab) (r0 rb rd:AObj),(∀ m,n0≤m→r0.under m=true∧rb.under m=true∧rd.under m=true)→E'.N=E.N→E'.h=B j++qd5 D::r0::L→hUnder E'.h.length E'.h=true→(AV.agg x.x).bd →
   AWpI P E' (some l) asg (thenI (fun ds e1=>ds=[]∧e1.h[n0+1]?=some r0 ∧
    AWpI P E' (some l) body (roundJ E' (n0+1) r0 rb rd fun r h' =>
     (stop x=true→r=.ret (Bo false)∧h'=X j x++qd5 D::rd::L)∧(stop x=false→r=.ret (Bo true)∧h'=B (j+1)++qd5 D::r0::L))
     [] ⟨e1.t,e1.h.set (n0+1) rb⟩) (fun _ _ _=>False)) [] ⟨(p,.agg x.x)::qd3 0 (slots E.N e),E'.h⟩)
  (hdone:∀ (j D:Nat) (o:AObj),scan stop xs k=(j,none)→Q .normal (coll D::ds) ⟨e.t,B j++[qd5 D,o]⟩)
  (hstop:∀ (j:Nat) (x:Ex) (D:Nat) (o:AObj),scan stop xs k=(j,some x)→Q .ret (coll D::ds) ⟨e.t,X j x++[qd5 D,o]⟩) :
  AWpI P E none (.rangeFunc g #[p] asg body) Q ds e:=by
 refine awpI_range hg fun fn D l=>?_;have hL:∀ st pe,hUnder (n0+2) [qd5 D,recA E e p asg body l D fn st pe]=true:=fun st pe=>by
  simp only [hUnder,qd5,recA,AObj.under,qaw,Bool.true_and,Bool.and_true];exact qco (by omega) _ hsl
 have hnl:qbc (e.h++[qd5 D,.raw l (recO .ready none fn #[p] asg body D) (slots E.N e)]) ([.fn (.yield l) [] []]++caps)=[.fn (.yield l) [] []]++caps:=by
  have:∀ (a b:List AV) H,qbc H (a++b)=qbc H a++qbc H b:=fun a b H=>by
   induction a with
   | nil=>rfl
   | cons x a ih=>simp [qbc,ih]
  rw [this,hcaps];simp [qbc,AV.norm]
 rw [hnl,hB];have Y:YH P l (fun j=>B j++[qd5 D,recA E e p asg body l D fn .ready none]) (fun j x=>X j x++[qd5 D,recA E e p asg body l D fn .done (some .ret)]) stop (n0+2):={
  len:=fun j=>by simp [len]
  lenX:=fun j x=>by simp [lenX]
  und:=fun j=>by rw [qaz,qa4 (by omega) (und j),hL];rfl
  undX:=fun j x=>by rw [qaz,qa4 (by omega) (undX j x),hL];rfl
  y:=fun j x L=>by
   have hidx:(B j++[qd5 D,recA E e p asg body l D fn .ready none]++L)[n0+1]?=some (.raw l (recO .ready none fn #[p] asg body D) (slots E.N e)):=by
    rw [List.append_assoc,List.getElem?_append_right (by rw [len];omega),len,show n0+1 - n0=1 by omega];rfl
   refine ayield_of hidx (by simpa [slots] using hp) fun E' hN hh hu hbd _=>?_;have hN':E'.N=E.N:=by rw [hN];simp [slots]
   have hh':E'.h=B j++qd5 D::recA E e p asg body l D fn .ready none::L:=by rw [hh];simp
   have hun:∀ st pe m,n0≤m→(recA E e p asg body l D fn st pe).under m=true:=fun st pe m hm=>qco hm _ hsl;have:=hround E' l D j x L _ (recA E e p asg body l D fn .busy none) (recA E e p asg body l D fn .done (some .ret)) (fun m hm=>⟨hun _ _ m hm,hun _ _ m hm,hun _ _ m hm⟩) hN' hh' (by rw [hh];exact hu) hbd;have hJ:∀ R,roundJ E' (n0+1) (recA E e p asg body l D fn .ready none) (recA E e p asg body l D fn .busy none) (recA E e p asg body l D fn .done (some .ret)) R=roundI E' (n0+1) l fn #[p] asg body D (slots E.N e) R:=fun R=>by
    funext x ds e;cases x<;>rfl
   rw [hJ,hh'] at this;simpa [recA] using this }
 refine (hit l [qd5 D,recA E e p asg body l D fn .ready none] _ (n0+2) Y).mono ?_;rintro r h' ⟨rfl,rfl⟩;refine ⟨⟨_,rfl⟩,?_⟩;rcases hsc:scan stop xs k with ⟨j,_ | x⟩
 ·
  refine ⟨.ready,none,by simp,?_,?_⟩
  ·
   simp only [finY];rw [List.getElem?_append_right (by rw [len,len];omega),len,len,show n0+1 - n0=1 by omega];rfl
  ·
   simp only [finY];rw [List.set_append_right _ _ (by rw [len,len];omega),len,len,show n0+1 - n0=1 by omega];exact hdone j D _ hsc
 ·
  refine ⟨.done,some .ret,by simp,?_,?_⟩
  ·
   simp only [finY];rw [List.getElem?_append_right (by rw [len,lenX];omega),len,lenX,show n0+1 - n0=1 by omega];rfl
  ·
   simp only [finY];rw [List.set_append_right _ _ (by rw [len,lenX];omega),len,lenX,show n0+1 - n0=1 by omega];exact awpI_ret (hstop j x D _ hsc)
end
end Go.Cw

namespace Go.Cw
open Go Go.Abs
def effF (f:Foot):Foot:=if qcd f.all f.reads f.writes=true then f else ⟨true,[],[]⟩
def depS (a b:Foot):Bool:=if b.all=true then true else if a.all=true then decide (0<b.reads.length) else a.writes.any fun k=>qcr b.reads k
def depsOf (l:List Foot) (j:Nat) (f:Foot):List Nat:=(List.range j).filter fun i=>match l[i]? with | some g=>depS (effF g) (effF f) | none=>false
def visS (effs:List Eff) (done:List Bool) (s:List Pr):Nat→List Pr
 | 0=>s
 | i+1=>if done.getD i false=true then match effs[i]? with | some e=>qdp (visS effs done s i) e | none=>visS effs done s i else visS effs done s i
section
variable {fmt:Int→qac}
theorem applyE_get {s:List Pr} {e:Eff} (hs:qa0 s=true) (he:e.status=1→qcm e.writes=true) (k:qac):qeh (qdp s e) k=if wroteS e k=true then qeh e.writes k else qeh s k:=by
 unfold qdp wroteS;by_cases h:e.status=1
 ·
  have hw:=he h;rw [if_pos ⟨h,hs,hw⟩];obtain ⟨w1,w2,w3⟩:=(qdg _).1 hw;rw [getP_apply ((qd2 s).1 hs).2.2 w3 w1];simp [h]
 ·
  rw [if_neg (fun g=>h g.1)];simp [h]
theorem applyE_ok {s:List Pr} {e:Eff} (hs:qa0 s=true):qa0 (qdp s e)=true:=by
 unfold qdp;split
 · rename_i h;exact applyP_ok hs h.2.2
 · exact hs
theorem applyE_no {s:List Pr} {e:Eff} (hs:qa0 s=false):qdp s e=s:=by
 unfold qdp;rw [if_neg (fun h=>by rw [hs] at h;cases h.2.1)]
theorem applyE_rng {s:List Pr} {e:Eff} (hs:rngL s) (he:rngL e.writes):rngL (qdp s e):=by
 unfold qdp;split
 · rename_i h;exact rngL_apply hs he h.2.1 h.2.2
 · exact hs
theorem applyE_len (s:List Pr) (e:Eff):(qdp s e).length≤s.length+e.writes.length:=by
 unfold qdp;split
 · exact applyP_len _ _
 · omega
def serSt (fmt:Int→qac) (procs:List Proc) (s:List Pr) (l:List Txn) (i:Nat):List Pr:=(qb2 fmt procs s (l.take i)).1
def serEf (fmt:Int→qac) (procs:List Proc) (s:List Pr) (l:List Txn) (i:Nat) (t:Txn):Eff:=(oneS fmt procs (serSt fmt procs s l i) t).2
theorem ser_succ {procs:List Proc} {s:List Pr} {l:List Txn} {i:Nat} (h:i<l.length):serSt fmt procs s l (i+1)=(oneS fmt procs (serSt fmt procs s l i) l[i]).1:=by
 unfold serSt;rw [List.take_succ_eq_append_getElem h,round_snoc]
theorem roundS_len {procs:List Proc} {s:List Pr}:∀ (l:List Txn),(qb2 fmt procs s l).2.length=l.length :=
 snoc_ind (by rfl) fun l t ih=>by rw [round_snoc];simp [ih]
theorem ser_effs {procs:List Proc} {s:List Pr}:∀ (l:List Txn) (i:Nat) (h:i<l.length),(qb2 fmt procs s l).2[i]?=some (serEf fmt procs s l i l[i]):=by
 refine snoc_ind (fun i h=>by simp at h) fun l t ih i h=>?_;rw [round_snoc];by_cases hi:i<l.length
 ·
  have:(qb2 fmt procs s l).2[i]?=some (serEf fmt procs s l i l[i]):=ih i hi;rw [List.getElem?_append_left (by rw [roundS_len];exact hi),this];unfold serEf serSt;rw [List.getElem_append_left hi,List.take_append_of_le_length (by omega)]
 ·
  have e:i=l.length:=by simp at h;omega
  subst e;have hl:=roundS_len (fmt:=fmt) (procs:=procs) (s:=s) l;rw [List.getElem?_append_right (by omega),hl];simp [serEf,serSt]
structure MvIn (fmt:Int→qac) (procs:List Proc) (s:List Pr) (l:List Txn) (effs:List Eff) (done:List Bool):Prop where
 le:effs.length=l.length
 ld:done.length=l.length
 ok:∀ i (h:i<l.length),done.getD i false=true→effs[i]?=some (serEf fmt procs s l i l[i])
section
variable {procs:List Proc} {s:List Pr} {l:List Txn} {effs:List Eff} {done:List Bool}
theorem ser_one (hB:BatchIn fmt procs l) (hs:rngL s) {i:Nat} (h:i<l.length):OneOk (serSt fmt procs s l i) (oneS fmt procs (serSt fmt procs s l i) l[i]) :=
 one_ok hB.fmt hB.body (hB.args _ (List.getElem_mem h)) (round_ok hs _ (hB.take i)).rng
theorem ser_ok (hB:BatchIn fmt procs l) (hs:rngL s) (h0:qa0 s=true) (i:Nat):qa0 (serSt fmt procs s l i)=true:=(round_ok hs _ (hB.take i)).ok h0
theorem ser_no (hB:BatchIn fmt procs l) (hs:rngL s) (h0:qa0 s=false) (i:Nat):serSt fmt procs s l i=s:=(round_ok hs _ (hB.take i)).no h0
theorem vis_ok (h0:qa0 s=true):∀ i,qa0 (visS effs done s i)=true
 | 0=>h0
 | i+1=>by
  rw [visS];split
  ·
   split
   · exact applyE_ok (vis_ok h0 i)
   · exact vis_ok h0 i
  · exact vis_ok h0 i
theorem vis_no (h0:qa0 s=false):∀ i,visS effs done s i=s
 | 0=>rfl
 | i+1=>by
  rw [visS,vis_no h0 i];split
  ·
   split
   · exact applyE_no h0
   · rfl
  · rfl
theorem vis_get (hB:BatchIn fmt procs l) (hs:rngL s) (h0:qa0 s=true) (hI:MvIn fmt procs s l effs done) (k:qac):∀ i,i≤l.length→(∀ n (h:n<l.length),n<i→done.getD n false=false→wroteS (serEf fmt procs s l n l[n]) k=false)→qeh (visS effs done s i) k=qeh (serSt fmt procs s l i) k
 | 0,_,_=>by simp [visS,serSt,qb2]
 | i+1,hi,hw=>by
  have ih:=vis_get hB hs h0 hI k i (by omega) (fun n h hn=>hw n h (by omega));have hO:=ser_one hB hs (show i<l.length by omega);have hso:=ser_ok hB hs h0 i;rw [ser_succ (by omega),hO.upd,applyE_get hso (fun h=>(hO.com h).2),visS];rcases hd:done.getD i false with _ | _
  ·
   rw [if_neg (by simp),ih];have:=hw i (by omega) (by omega) hd;unfold serEf at this;rw [if_neg (by simp [this])]
  ·
   rw [if_pos rfl,hI.ok i (by omega) hd];simp only;unfold serEf;rw [applyE_get (vis_ok h0 i) (fun h=>(hO.com h).2),ih]
theorem vis_all (hB:BatchIn fmt procs l) (hs:rngL s) (hI:MvIn fmt procs s l effs done):∀ i,i≤l.length→(∀ n,n<i→done.getD n false=true)→visS effs done s i=serSt fmt procs s l i
 | 0,_,_=>by simp [visS,serSt,qb2]
 | i+1,hi,hd=>by
  have ih:=vis_all hB hs hI i (by omega) (fun n hn=>hd n (by omega));have hO:=ser_one hB hs (show i<l.length by omega);rw [ser_succ (by omega),hO.upd,visS,if_pos (hd i (by omega)),hI.ok i (by omega) (hd i (by omega)),ih];rfl
theorem one_foot_reads {t:Txn} {k:qac} (h:k∈(oneS fmt procs s t).2.reads):qcd t.ft.all t.ft.reads t.ft.writes=true∧(t.ft.all=true∨qcr t.ft.reads k=true):=by
 unfold oneS at h;split at h
 · cases h
 ·
  rename_i p hp;have h:k∈(runS fmt p t.args s t.ft).reads:=by split at h<;>exact h
  refine ⟨?_,(run_reads h).2.2⟩;by_cases hr:runOk p t.args s t.ft
  · exact ((qb1 _ _ _ _).1 hr).2.2.2
  · rw [qd4 hr] at h;cases h
theorem one_foot_writes {t:Txn} {k:qac} (hB:BatchIn fmt procs [t]) (hs:rngL s) (h:wroteS (oneS fmt procs s t).2 k=true):qcd t.ft.all t.ft.reads t.ft.writes=true∧(t.ft.all=true∨qcr t.ft.writes k=true):=by
 unfold oneS at h;split at h
 · simp [wroteS,wrongE] at h
 ·
  rename_i p hp;have h:wroteS (runS fmt p t.args s t.ft) k=true:=by split at h<;>exact h
  unfold wroteS at h;simp only [Bool.and_eq_true,decide_eq_true_eq] at h;have hI:RunIn fmt p t.args s:=⟨hB.fmt,hB.body p (findP_mem hp).1,hB.args t (by simp),hs⟩
  have hc:=(run_commit (ft:=t.ft) hI h.1).1;have hk:k∈(runS fmt p t.args s t.ft).puts:=by rw [← hc];exact hasP_iff.1 h.2
  refine ⟨?_,(run_puts hk).2⟩;by_cases hr:runOk p t.args s t.ft
  · exact ((qb1 _ _ _ _).1 hr).2.2.2
  · rw [qd4 hr] at h;simp [wrongE] at h
theorem mv_step (hB:BatchIn fmt procs l) (hs:rngL s) (hI:MvIn fmt procs s l effs done) {j:Nat} (hj:j<l.length) (hr:∀ i∈depsOf (l.map (·.ft)) j l[j].ft,done.getD i false=true):(oneS fmt procs (visS effs done s j) l[j]).2=serEf fmt procs s l j l[j]:=by
 unfold serEf;rcases h0:qa0 s with _ | _
 · rw [vis_no h0,ser_no hB hs h0]
 have hdep:∀ n (h:n<l.length),n<j→done.getD n false=false→depS (effF l[n].ft) (effF l[j].ft)=false:=fun n h hn hd=>by
  rcases hx:depS (effF l[n].ft) (effF l[j].ft) with _ | _
  · rfl
  ·
   have:n∈depsOf (l.map (·.ft)) j l[j].ft:=by
    unfold depsOf;rw [List.mem_filter,List.mem_range];refine ⟨hn,?_⟩;rw [List.getElem?_map,List.getElem?_eq_getElem h];simpa using hx
   rw [hr n this] at hd;cases hd
 by_cases hall:∀ n,n<j→done.getD n false=true
 · rw [vis_all hB hs hI j (by omega) hall]
 ·
  refine one_same (ser_ok hB hs h0 j) (vis_ok h0 j) fun k hk=>?_;obtain ⟨hf,hm⟩:=one_foot_reads hk;refine (vis_get hB hs h0 hI k j (by omega) fun n h hn hd=>?_).symm;have hd':=hdep n h hn hd;have ej:effF l[j].ft=l[j].ft:=by unfold effF;rw [if_pos hf]
  rw [ej] at hd';unfold depS at hd';split at hd'
  · cases hd'
  rename_i hja;have hkr:qcr l[j].ft.reads k=true:=by
   rcases hm with h | h
   · exact (hja h).elim
   · exact h
  rcases hw:wroteS (serEf fmt procs s l n l[n]) k with _ | _
  · rfl
  ·
   obtain ⟨hfn,hmn⟩:=one_foot_writes (fmt:=fmt) (procs:=procs) (s:=serSt fmt procs s l n) (t:=l[n]) ⟨hB.fmt,hB.body,fun x hx=>by simp at hx;subst hx;exact hB.args _ (List.getElem_mem h)⟩ (round_ok hs _ (hB.take n)).rng hw;have en:effF l[n].ft=l[n].ft:=by unfold effF;rw [if_pos hfn]
   rw [en] at hd';split at hd'
   ·
    have:l[j].ft.reads≠[]:=by
     intro e;rw [e] at hkr;simp [qcr,anyL] at hkr
    have:=List.length_pos_iff.2 this;simp [this] at hd'
   ·
    rename_i hna;have hkw:qcr l[n].ft.writes k=true:=by
     rcases hmn with h | h
     · exact (hna h).elim
     · exact h
    rw [List.any_eq_false] at hd';exact (hd' k (hasK_iff.1 hkw) hkr).elim
end
end
end Go.Cw

namespace Go.Cw
open Go Go.Abs
theorem nodup_sub:∀ (l m:List Nat),l.Nodup→(∀ x∈l,x∈m)→l.length≤m.length
 | [],m,_,_=>by simp
 | x::l,m,hd,h=>by
  have hx:=h x (by simp);have hd':=List.nodup_cons.1 hd;have h1:=nodup_sub l (m.erase x) hd'.2 (fun y hy=>(List.mem_erase_of_ne (by rintro rfl;exact hd'.1 hy)).2 (h y (by simp [hy])));rw [List.length_erase_of_mem hx] at h1;have h2:0<m.length:=List.length_pos_of_mem hx;simp only [List.length_cons];omega
theorem nodup_len (n:Nat) (l:List Nat) (hd:l.Nodup) (h:∀ x∈l,x<n):l.length≤n:=by
 have:=nodup_sub l (List.range n) hd (fun x hx=>List.mem_range.2 (h x hx));simpa using this
theorem least {P:Nat→Prop} (h:∃ n,P n):∃ n,P n∧∀ i,i<n→¬ P i:=by
 obtain ⟨n,hn⟩:=h
 induction n using Nat.strongRecOn with
 | ind n ih =>
  by_cases hc:∃ i,i<n∧P i
  ·
   obtain ⟨i,hi,hp⟩:=hc;exact ih i hi hp
  · exact ⟨n,hn,fun i hi hp=>hc ⟨i,hi,hp⟩⟩
theorem nodup_all {n:Nat} {l:List Nat} (hd:l.Nodup) (h:∀ x∈l,x<n) (hl:l.length=n):∀ j,j<n→j∈l:=fun j hj=>by
 by_cases hm:j∈l
 · exact hm
 ·
  have h1:=nodup_len n (j::l) (List.nodup_cons.2 ⟨hm,hd⟩) (fun x hx=>by
   rcases List.mem_cons.1 hx with rfl | hx
   · exact hj
   · exact h x hx)
  simp at h1;omega
def zeroE:Eff:=⟨0,0,[],[],[],[],em,0⟩
def depsL (fs:List Foot) (j:Nat):List Nat:=match fs[j]? with | some f=>depsOf fs j f | none=>[]
def readyS (fs:List Foot) (done:List Bool) (j:Nat):Bool:=!done.getD j false&&(depsL fs j).all fun i=>done.getD i false
def candS (fs:List Foot) (done:List Bool):List Nat:=(List.range fs.length).filter (readyS fs done)
def choiceS (choices:List Int) (step n:Nat):Nat:=match choices[step]? with | some c=>if c<0 then 0 else (c.toNat % n) | none=>0
section
variable (fmt:Int→qac)
def mvStep (procs:List Proc) (s:List Pr) (l:List Txn) (choices:List Int) (x:List Eff×List Bool×List Nat) (step:Nat):List Eff×List Bool×List Nat :=
 let c:=candS (l.map (·.ft)) x.2.1
 let j:=c.getD (choiceS choices step c.length) 0
 (x.1.set j (match l[j]? with | some t=>(oneS fmt procs (visS x.1 x.2.1 s j) t).2 | none=>zeroE),x.2.1.set j true,x.2.2++[j])
def mvN (procs:List Proc) (s:List Pr) (l:List Txn) (choices:List Int) (n:Nat):List Eff×List Bool×List Nat:=(List.range n).foldl (mvStep fmt procs s l choices) (List.replicate l.length zeroE,List.replicate l.length false,[])
end
theorem depsL_lt {fs:List Foot} {j i:Nat} (h:i∈depsL fs j):i<j:=by
 unfold depsL depsOf at h;split at h
 · exact List.mem_range.1 (List.mem_filter.1 h).1
 · cases h
structure MvJ (fmt:Int→qac) (procs:List Proc) (s:List Pr) (l:List Txn) (n:Nat) (x:List Eff×List Bool×List Nat):Prop where
 inv:MvIn fmt procs s l x.1 x.2.1
 len:x.2.2.length=n
 nod:x.2.2.Nodup
 mem:∀ j,x.2.1.getD j false=true↔j∈x.2.2
 lt:∀ j∈x.2.2,j<l.length
 dep:∀ a (h:a<x.2.2.length),∀ i∈depsL (l.map (·.ft)) x.2.2[a],i∈x.2.2.take a
section
variable {fmt:Int→qac} {procs:List Proc} {s:List Pr} {l:List Txn} {choices:List Int}
theorem mvN_succ (n:Nat):mvN fmt procs s l choices (n+1)=mvStep fmt procs s l choices (mvN fmt procs s l choices n) n:=by
 unfold mvN;rw [List.range_succ,List.foldl_append];rfl
theorem cand_ne {n:Nat} {x:List Eff×List Bool×List Nat} (hJ:MvJ fmt procs s l n x) (hn:n<l.length):0<(candS (l.map (·.ft)) x.2.1).length:=by
 have hex:∃ j,j<l.length∧x.2.1.getD j false=false:=by
  refine Classical.byContradiction fun hno=>?_;have hall:∀ j,j<l.length→j∈x.2.2:=fun j hj=>(hJ.mem j).1 (by
   rcases hd:x.2.1.getD j false with _ | _
   · exact (hno ⟨j,hj,hd⟩).elim
   · rfl)
  have h1:=nodup_sub (List.range l.length) x.2.2 List.nodup_range (fun j hj=>hall j (List.mem_range.1 hj));have h2:=hJ.len;simp at h1;omega
 obtain ⟨j,⟨hj,hd⟩,hlt⟩:=least hex;refine List.length_pos_of_mem (a:=j) ?_;unfold candS readyS;rw [List.mem_filter,List.mem_range];refine ⟨by simpa using hj,?_⟩;rw [hd];simp only [Bool.not_false,Bool.true_and,List.all_eq_true];intro i hi;have h3:=depsL_lt hi;rcases hd':x.2.1.getD i false with _ | _
 · exact (hlt i h3 ⟨by omega,hd'⟩).elim
 · rfl
theorem choice_lt {step n:Nat} (h:0<n):choiceS choices step n<n:=by
 unfold choiceS;split
 ·
  split
  · exact h
  · exact Nat.mod_lt _ h
 · exact h
theorem mv_j0:MvJ fmt procs s l 0 (mvN fmt procs s l choices 0):=by
 refine ⟨⟨by simp [mvN],by simp [mvN],fun i h hd=>?_⟩,rfl,by simp [mvN],fun j=>?_,by simp [mvN],fun a h=>by simp [mvN] at h⟩
 · simp [mvN,List.getD_eq_getElem?_getD,List.getElem?_replicate,h] at hd
 ·
  simp only [mvN,List.range_zero,List.foldl_nil,List.not_mem_nil,iff_false,Bool.not_eq_true];rw [List.getD_eq_getElem?_getD,List.getElem?_replicate];split<;>rfl
theorem mv_js (hB:BatchIn fmt procs l) (hs:rngL s) {n:Nat} {x:List Eff×List Bool×List Nat} (hJ:MvJ fmt procs s l n x) (hn:n<l.length):MvJ fmt procs s l (n+1) (mvStep fmt procs s l choices x n):=by
 have hc:=cand_ne hJ hn;have hlt:=choice_lt (choices:=choices) (step:=n) hc;obtain ⟨c,hcd⟩:∃ c,candS (l.map (·.ft)) x.2.1=c:=⟨_,rfl⟩
 rw [hcd] at hc hlt;obtain ⟨j,hj⟩:∃ j,c.getD (choiceS choices n c.length) 0=j:=⟨_,rfl⟩
 have hjm:j∈c:=by
  rw [← hj,List.getD_eq_getElem?_getD,List.getElem?_eq_getElem hlt];exact List.getElem_mem hlt
 rw [← hcd] at hjm;unfold candS readyS at hjm;rw [List.mem_filter,List.mem_range,Bool.and_eq_true,List.all_eq_true] at hjm;obtain ⟨hjl,hjd,hdep⟩:=hjm;have hjl:j<l.length:=by simpa using hjl
 have hjd:x.2.1.getD j false=false:=by simpa using hjd
 have hnm:j∉x.2.2:=fun h=>by rw [(hJ.mem j).2 h] at hjd;cases hjd
 have hE:mvStep fmt procs s l choices x n=(x.1.set j (serEf fmt procs s l j l[j]),x.2.1.set j true,x.2.2++[j]):=by
  unfold mvStep;simp only [hcd,hj,List.getElem?_eq_getElem hjl];rw [mv_step hB hs hJ.inv hjl (fun i hi=>hdep i (by
   unfold depsL;rw [List.getElem?_map,List.getElem?_eq_getElem hjl];exact hi))]
 rw [hE];have hgd:∀ i,(x.2.1.set j true).getD i false=true↔i=j∨x.2.1.getD i false=true:=fun i=>by
  rw [List.getD_eq_getElem?_getD,List.getD_eq_getElem?_getD,List.getElem?_set];by_cases h:j=i
  ·
   subst h;simp [hJ.inv.ld,hjl]
  ·
   have h':¬ i=j:=fun e=>h e.symm;simp [h,h']
 refine ⟨⟨by simp [hJ.inv.le],by simp [hJ.inv.ld],fun i h hd=>?_⟩,by simp [hJ.len],?_,fun i=>?_,fun i hi=>?_,fun a h i hi=>?_⟩
 ·
  rw [List.getElem?_set];by_cases e:j=i
  ·
   subst e;simp [hJ.inv.le,hjl]
  ·
   rw [if_neg e];refine hJ.inv.ok i h ?_;rcases (hgd i).1 hd with e' | h'
   · exact (e e'.symm).elim
   · exact h'
 · exact List.nodup_append.2 ⟨hJ.nod,by simp,fun a ha b hb=>by simp at hb;subst hb;rintro rfl;exact hnm ha⟩
 ·
  rw [hgd,hJ.mem];simp [or_comm]
 ·
  rcases List.mem_append.1 hi with hi | hi
  · exact hJ.lt i hi
  · simp at hi;omega
 ·
  have hl:=hJ.len;simp only [List.length_append,List.length_singleton] at h;by_cases e:a<x.2.2.length
  ·
   simp only [List.getElem_append_left e] at hi;have:=hJ.dep a e i hi;simp only;rw [List.take_append_of_le_length (by omega)];exact this
  ·
   have e2:a=x.2.2.length:=by omega
   subst e2;simp only [List.getElem_concat_length] at hi;have:=(hJ.mem i).1 (hdep i hi);simp only;rw [List.take_append_of_le_length (by omega),List.take_length];exact this
theorem mv_all (hB:BatchIn fmt procs l) (hs:rngL s):∀ n,n≤l.length→MvJ fmt procs s l n (mvN fmt procs s l choices n)
 | 0,_=>mv_j0
 | n+1,h=>by
  rw [mvN_succ];exact mv_js hB hs (mv_all hB hs n (by omega)) (by omega)
theorem mv_serial (hB:BatchIn fmt procs l) (hs:rngL s):(mvN fmt procs s l choices l.length).1=(qb2 fmt procs s l).2∧visS (mvN fmt procs s l choices l.length).1 (mvN fmt procs s l choices l.length).2.1 s l.length=(qb2 fmt procs s l).1:=by
 have hJ:=mv_all (choices:=choices) hB hs l.length (Nat.le_refl _);have hall:∀ j,j<l.length→(mvN fmt procs s l choices l.length).2.1.getD j false=true:=fun j hj=>(hJ.mem j).2 (nodup_all hJ.nod hJ.lt hJ.len j hj);refine ⟨?_,?_⟩
 ·
  refine List.ext_getElem? fun i=>?_;by_cases hi:i<l.length
  · rw [hJ.inv.ok i hi (hall i hi),ser_effs l i hi]
  · rw [List.getElem?_eq_none (by rw [hJ.inv.le];omega),List.getElem?_eq_none (by rw [roundS_len];omega)]
 ·
  rw [vis_all hB hs hJ.inv l.length (Nat.le_refl _) hall];unfold serSt;rw [List.take_length]
end
end Go.Cw

namespace Go.Cw
open Go Go.Abs
def meetS (a b:List qac):Bool:=a.any fun k=>qcr b k
def conflS (a b:Foot):Bool :=
 if qcd a.all a.reads a.writes=false∨qcd b.all b.reads b.writes=false∨a.all=true∨b.all=true then true
 else meetS a.writes b.writes||(meetS a.writes b.reads||meetS a.reads b.writes)
section
variable {fmt:Int→qac} {procs:List Proc} {s:List Pr}
end
end Go.Cw

namespace Go.Cw
open Go Go.Abs
theorem footOk_top:qcd true [] []=true:=by simp [qcd]
theorem effF_ok (f:Foot):qcd (effF f).all (effF f).reads (effF f).writes=true:=by
 unfold effF;split
 · assumption
 · exact footOk_top
theorem conflS_eff (a b:Foot):conflS (effF a) (effF b)=conflS a b:=by
 unfold conflS;have h1:=effF_ok a;have h2:=effF_ok b;by_cases ha:qcd a.all a.reads a.writes=true
 ·
  have ea:effF a=a:=by unfold effF;rw [if_pos ha]
  by_cases hb:qcd b.all b.reads b.writes=true
  ·
   have eb:effF b=b:=by unfold effF;rw [if_pos hb]
   rw [ea,eb]
  ·
   have eb:effF b=⟨true,[],[]⟩:=by unfold effF;rw [if_neg hb]
   rw [eb,if_pos (by simp),if_pos (by simp [hb])]
 ·
  have ea:effF a=⟨true,[],[]⟩:=by unfold effF;rw [if_neg ha]
  rw [ea,if_pos (by simp),if_pos (by simp [ha])]
def depR (a b:Foot):Bool:=(effF b).all||((effF a).all&&decide (0<(effF b).reads.length))||(effF a).writes.any fun k=>qcr (effF b).reads k
theorem depR_eq (a b:Foot):depR a b=depS (effF a) (effF b):=by
 unfold depR depS;have ha:=effF_ok a;by_cases h1:(effF b).all=true
 · simp [h1]
 ·
  by_cases h2:(effF a).all=true
  ·
   unfold qcd at ha;rw [if_pos h2] at ha;simp only [Bool.and_eq_true,decide_eq_true_eq] at ha;have:(effF a).writes=[]:=List.length_eq_zero_iff.1 ha.2;simp [h1,h2,this]
  · simp [h1,h2]
def upP (n:Nat):List (Nat×Nat):=(List.range n).flatMap fun j=>(List.range j).map fun i=>(i,j)
theorem upP_succ (n:Nat):upP (n+1)=upP n++(List.range n).map fun i=>(i,n):=by simp [upP,List.range_succ]
structure Ord (n:Nat) (o:List Nat) (at':List Int):Prop where
 len:o.length=n
 la:at'.length=n
 lt:∀ k∈o,k<n
 nod:o.Nodup
 at_:∀ a (h:a<o.length),at'.getD o[a] (-1)=a
theorem Ord.get {n:Nat} {o:List Nat} {at':List Int} (h:Ord n o at') {k:Nat} (hk:k<n):∃ a,∃ ha:a<o.length,o[a]=k∧at'.getD k (-1)=a:=by
 have hm:=nodup_all h.nod h.lt h.len k hk;obtain ⟨a,ha,rfl⟩:=List.mem_iff_getElem.1 hm;exact ⟨a,ha,rfl,h.at_ a ha⟩
def earlyUp (at':List Int) (C:Nat→Nat→Bool) (n:Nat):Nat:=((upP n).filter fun p=>decide (at'.getD p.2 (-1)<at'.getD p.1 (-1))&&C p.1 p.2).length
end Go.Cw

namespace Go.Cw
open Go Go.Abs
def atF (n:Nat):List Int→Nat→List Int→Option (List Int)
 | [],_,m=>some m
 | k::o,i,m=>if k<0∨(n:Int)≤k∨0≤m.getD k.toNat (-1) then none else atF n o (i+1) (m.set k.toNat i)
structure Pl (n:Nat) (q:List Nat) (m:List Int):Prop where
 la:m.length=n
 lt:∀ k∈q,k<n
 nod:q.Nodup
 ok:∀ a (h:a<q.length),m.getD q[a] (-1)=a
 no:∀ k,k∉q→m.getD k (-1) = -1
theorem getD_set {α:Type} (m:List α) (k j:Nat) (v d:α) (h:k<m.length):(m.set k v).getD j d=if k=j then v else m.getD j d:=by
 simp only [List.getD_eq_getElem?_getD,List.getElem?_set];split
 · simp [h]
 · rfl
theorem Pl.mem {n:Nat} {q:List Nat} {m:List Int} (h:Pl n q m) (k:Nat):0≤m.getD k (-1)↔k∈q:=by
 constructor
 ·
  intro h0;by_cases hk:k∈q
  · exact hk
  · rw [h.no k hk] at h0;omega
 ·
  intro hk;obtain ⟨a,ha,rfl⟩:=List.mem_iff_getElem.1 hk;rw [h.ok a ha];omega
theorem Pl.step {n:Nat} {q:List Nat} {m:List Int} (h:Pl n q m) {k:Nat} (hk:k<n) (hq:k∉q):Pl n (q++[k]) (m.set k q.length):=by
 have hl:k<m.length:=by rw [h.la];exact hk
 refine ⟨by simp [h.la],fun x hx=>?_,?_,fun a ha=>?_,fun x hx=>?_⟩
 ·
  rcases List.mem_append.1 hx with hx | hx
  · exact h.lt x hx
  · simp at hx;omega
 ·
  rw [List.nodup_append];refine ⟨h.nod,by simp,fun x hx y hy e=>?_⟩;simp at hy;subst hy e;exact hq hx
 ·
  rw [getD_set _ _ _ _ _ hl];by_cases h1:a<q.length
  ·
   rw [List.getElem_append_left h1,if_neg (fun e=>hq (by rw [e];exact List.getElem_mem h1))];exact h.ok a h1
  ·
   have:a=q.length:=by simp at ha;omega
   subst this;simp
 ·
  simp only [List.mem_append,List.mem_singleton,not_or] at hx;rw [getD_set _ _ _ _ _ hl,if_neg (fun e=>hx.2 e.symm)];exact h.no x hx.1
theorem Pl.nil (n:Nat):Pl n [] (List.replicate n (-1)):=⟨by simp,by simp,by simp,by simp,fun k _=>by
 simp only [List.getD_eq_getElem?_getD,List.getElem?_replicate];split<;>rfl⟩
def confN (fs:List Foot) (i j:Nat):Bool:=match fs[i]?,fs[j]? with | some a,some b=>conflS a b | _,_=>false
def earlyP (fs:List Foot) (order:List Int):Nat :=
 match atF fs.length order 0 (List.replicate fs.length (-1)) with
 | none=>0
 | some m=>if order.length≠fs.length then 0 else earlyUp m (confN fs) fs.length
end Go.Cw

namespace Go.Cw
open Go Go.Abs
def nR (k:Nat):List AV:=[I (k:Int)]
def lR (l:List Nat):List AV:=[.slice (l.map nR)]
def depM (fs:List Foot) (j m:Nat):List Nat:=(List.range m).filter fun i=>match fs[i]?,fs[j]? with | some g,some f=>depS (effF g) (effF f) | _,_=>false
def qbn (fs:List Foot) (n:Nat):List (List Nat):=(List.range n).map fun j=>depM fs j j
theorem depsAll_len (fs:List Foot) (n:Nat):(qbn fs n).length=n:=by simp [qbn]
theorem depsAll_succ (fs:List Foot) (n:Nat):qbn fs (n+1)=qbn fs n++[depM fs n n]:=by simp [qbn,List.range_succ]
theorem depM_succ {fs:List Foot} {j m:Nat} (hj:j<fs.length) (hm:m<fs.length):depM fs j (m+1)=if depS (effF fs[m]) (effF fs[j])=true then depM fs j m++[m] else depM fs j m:=by
 unfold depM;rw [List.range_succ,List.filter_append];by_cases h:depS (effF fs[m]) (effF fs[j])=true<;>simp [hj,hm,h]
theorem depM_len (fs:List Foot) (j m:Nat):(depM fs j m).length≤m:=by
 unfold depM;have:=List.length_filter_le (fun i=>match fs[i]?,fs[j]? with | some g,some f=>depS (effF g) (effF f) | _,_=>false) (List.range m);simpa using this
theorem depM_eq {fs:List Foot} {j:Nat} (hj:j<fs.length):depM fs j j=depsL fs j:=by
 unfold depM depsL depsOf;rw [List.getElem?_eq_getElem hj];refine List.filter_congr fun i _=>?_;rcases fs[i]? with _ | x<;>rfl
theorem depM_lt {fs:List Foot} {j m i:Nat} (h:i∈depM fs j m):i<m:=by
 unfold depM at h;exact List.mem_range.1 (List.mem_filter.1 h).1
theorem anyL_any {α:Type} (p:α→Bool):∀ l:List α,anyL p l=l.any p
 | []=>rfl
 | x::l=>by simp [anyL,anyL_any p l]
def candM (fs:List Foot) (done:List Bool) (m:Nat):List Nat:=(List.range m).filter (readyS fs done)
theorem candM_succ (fs:List Foot) (done:List Bool) (m:Nat):candM fs done (m+1)=if readyS fs done m=true then candM fs done m++[m] else candM fs done m:=by
 unfold candM;rw [List.range_succ,List.filter_append];by_cases h:readyS fs done m=true<;>simp [h]
theorem candM_len (fs:List Foot) (done:List Bool) (m:Nat):(candM fs done m).length≤m:=by
 unfold candM;have:=List.length_filter_le (readyS fs done) (List.range m);simpa using this
theorem candM_eq (fs:List Foot) (done:List Bool):candM fs done fs.length=candS fs done:=rfl
end Go.Cw

namespace Go.Cw
open Go Go.Abs
section
variable {fmt:Int→qac} {procs:List Proc} {s:List Pr} {l:List Txn} {effs:List Eff} {done:List Bool}
theorem vis_rng (hB:BatchIn fmt procs l) (hs:rngL s) (hI:MvIn fmt procs s l effs done):∀ i,i≤l.length→rngL (visS effs done s i)∧(visS effs done s i).length≤s.length+64 * i
 | 0,_=>⟨hs,by simp [visS]⟩
 | i+1,hi=>by
  obtain ⟨h1,h2⟩:=vis_rng hB hs hI i (by omega);rw [visS];rcases hd:done.getD i false with _ | _
  ·
   rw [if_neg (by simp)];exact ⟨h1,by omega⟩
  ·
   rw [if_pos rfl,hI.ok i (by omega) hd];simp only;have hO:=ser_one hB hs (show i<l.length by omega);refine ⟨applyE_rng h1 hO.wrng,?_⟩;have h3:=applyE_len (visS effs done s i) (serEf fmt procs s l i l[i]);have h4:(serEf fmt procs s l i l[i]).writes.length≤64:=hO.wrs;omega
theorem vis_wr (hB:BatchIn fmt procs l) (hs:rngL s) (hI:MvIn fmt procs s l effs done) {i:Nat} (hi:i<l.length) (hd:done.getD i false=true) (h:i<effs.length):effs[i].writes.length≤64:=by
 have h1:=hI.ok i hi hd;rw [List.getElem?_eq_getElem h] at h1;rw [Option.some.inj h1];exact (ser_one hB hs hi).wrs
theorem choice_iff {choices:List Int} {step n:Nat}:choiceS choices step n=if h:step<choices.length then (if choices[step]<0 then 0 else choices[step].toNat % n) else 0:=by
 unfold choiceS;by_cases h:step<choices.length
 · rw [dif_pos h,List.getElem?_eq_getElem h]
 · rw [dif_neg h,List.getElem?_eq_none (by omega)]
end
end Go.Cw

namespace Go.Cw
open Go Go.Abs
def bRow (b:Bool):List AV:=[.val (.bool b)]
section
variable {fmt:Int→qac}
theorem round_next {procs:List Proc} {s:List Pr} {l:List Txn} {n:Nat} (h:n<l.length):qb2 fmt procs s (l.take (n+1))=((oneS fmt procs (qb2 fmt procs s (l.take n)).1 l[n]).1,(qb2 fmt procs s (l.take n)).2++[(oneS fmt procs (qb2 fmt procs s (l.take n)).1 l[n]).2]):=by
 rw [List.take_succ_eq_append_getElem h,round_snoc]
theorem runIn_one {procs:List Proc} {l:List Txn} {s:List Pr} (hB:BatchIn fmt procs l) (hs:rngL s) {t:Txn} (ht:t∈l):∀ p,findP procs t=some p→RunIn fmt p t.args s:=fun p hp=>⟨hB.fmt,hB.body p (findP_mem hp).1,hB.args t ht,hs⟩
theorem round_stepState {procs:List Proc} {s:List Pr} {l:List Txn} (hs:rngL s) (hB:BatchIn fmt procs l) (n:Nat) (h:n≤l.length):rngL (qb2 fmt procs s (l.take n)).1∧(qb2 fmt procs s (l.take n)).1.length≤s.length+64 * n∧(qb2 fmt procs s (l.take n)).2.length=n:=by
 have h2:=round_ok hs (l.take n) (hB.take n);have h3:=h2.len;have h4:=h2.cnt;rw [List.length_take,Nat.min_eq_left h] at h3 h4;exact ⟨h2.rng,h3,h4⟩
end
end Go.Cw
