/- Part 27 of a proof: CwI, CwPc, CwPd, CwPe, CwPj, CwU, CwUb, CwUc -/
import Derived.Test.YtilhejdbiionhaaGreatDoorQ12
import Derived.Test.YtilhejdbiionhaaGreatDoorQ18
import Derived.Test.YtilhejdbiionhaaGreatDoorQ22
import Derived.Test.YtilhejdbiionhaaGreatDoorQ23
import Derived.Test.YtilhejdbiionhaaGreatDoorQ25
import Derived.Test.YtilhejdbiionhaaGreatDoorQ26
set_option linter.all false

namespace Go.Cw
open Go Go.Abs
structure YH (P:Program) (l:Nat) (HF:Nat→qaa) (HX:Nat→Ex→qaa) (stop:Ex→Bool) (n0:Nat):Prop where
 len:∀ k,(HF k).length=n0
 lenX:∀ k x,(HX k x).length=n0
 und:∀ k,hUnder n0 (HF k)=true
 undX:∀ k x,hUnder n0 (HX k x)=true
 y:∀ k (x:Ex) (L:qaa),AYield P l [.agg x.x] (HF k++L) fun r h'=>(stop x=true→r=.ret (Bo false)∧h'=HX k x++L)∧(stop x=false→r=.ret (Bo true)∧h'=HF (k+1)++L)
theorem YH.ext {P:Program} {l:Nat} {HF:Nat→qaa} {HX:Nat→Ex→qaa} {stop:Ex→Bool} {n0:Nat} (Y:YH P l HF HX stop n0) (L:qaa) (hL:hUnder (n0+L.length) L=true):YH P l (fun k=>HF k++L) (fun k x=>HX k x++L) stop (n0+L.length) where
 len:=fun k=>by rw [List.length_append,Y.len]
 lenX:=fun k x=>by rw [List.length_append,Y.lenX]
 und:=fun k=>by rw [qap,qas (by omega) (Y.und k),hL];rfl
 undX:=fun k x=>by rw [qap,qas (by omega) (Y.undX k x),hL];rfl
 y:=fun k x L'=>by simpa [List.append_assoc] using Y.y k x (L++L')
def finY (HF:Nat→qaa) (HX:Nat→Ex→qaa) (r:Nat×Option Ex):qaa:=match r.2 with
 | none=>HF r.1
 | some e=>HX r.1 e
def gM (ms:List (Option Nat)):qaa:=ms.map fun | none=>.none | some D=>qdl D
def dM (ms:List (Option Nat)):List Deferred:=(ms.filterMap id).reverse.map coll
def idxM:Nat→List (Option Nat)→List (Nat×Nat)
 | _,[]=>[]
 | k,none::l=>idxM (k+1) l
 | k,some D::l=>idxM (k+1) l++[(k,D)]
theorem idxM_coll:∀ (ms:List (Option Nat)) (k:Nat),(idxM k ms).map (fun p=>coll p.2)=dM ms
 | [],_=>rfl
 | none::l,k=>by simp only [idxM,idxM_coll l];rfl
 | some D::l,k=>by simp [idxM,idxM_coll l,dM]
theorem idxM_ge:∀ (ms:List (Option Nat)) (k:Nat) (p:Nat×Nat),p∈idxM k ms→k≤p.1∧p.1<k+ms.length∧(gM ms)[p.1 - k]?=some (qdl p.2)
 | [],_,p,h=>by simp [idxM] at h
 | none::l,k,p,h=>by
  obtain ⟨h1,h2,h3⟩:=idxM_ge l (k+1) p h;refine ⟨by omega,by simp;omega,?_⟩;rw [show p.1 - k=(p.1 - (k+1))+1 by omega];exact h3
 | some D::l,k,p,h=>by
  rw [idxM,List.mem_append] at h;rcases h with h | h
  ·
   obtain ⟨h1,h2,h3⟩:=idxM_ge l (k+1) p h;refine ⟨by omega,by simp;omega,?_⟩;rw [show p.1 - k=(p.1 - (k+1))+1 by omega];exact h3
  ·
   simp at h;subst h;refine ⟨by simp,by simp,?_⟩;simp [gM]
theorem idxM_nodup:∀ (ms:List (Option Nat)) (k:Nat),((idxM k ms).map (·.1)).Nodup
 | [],_=>List.nodup_nil
 | none::l,k=>idxM_nodup l (k+1)
 | some D::l,k=>by
  rw [idxM,List.map_append,List.nodup_append];refine ⟨idxM_nodup l (k+1),by simp,fun a ha b hb=>?_⟩;rw [List.mem_map] at ha;obtain ⟨p,hp,rfl⟩:=ha;have:=(idxM_ge l (k+1) p hp).1;simp at hb;omega
theorem takeA:∀ (l:List (Nat×Nat)) (A Z:qaa),(∀ p,p∈l→A.length≤p.1)→∃ Z',takeAll l (A++Z)=A++Z'
 | [],A,Z,_=>⟨Z,rfl⟩
 | p::l,A,Z,h=>by
  rw [takeAll,List.set_append_right _ _ (h p (by simp))];exact takeA l A _ fun q hq=>h q (by simp [hq])
theorem gM_app (a b:List (Option Nat)):gM (a++b)=gM a++gM b:=by simp [gM]
theorem dM_snoc (ms:List (Option Nat)) (D:Nat):dM (ms++[none,none,some D])=coll D::dM ms:=by simp [dM,List.filterMap_append]
theorem gM_und (ms:List (Option Nat)) (m:Nat):hUnder m (gM ms)=true:=by
 rw [hUnder_iff];intro o ho;simp only [gM,List.mem_map] at ho;obtain ⟨x,_,rfl⟩:=ho;cases x<;>rfl
section
variable {P:Program} {E:Ent} {p:Tmp} {asg body:Code}
def recA (E:Ent) (e:Env) (p:Tmp) (asg body:Code) (l D:Nat) (fn:FuncId) (st:LoopState) (pe:Option Code):AObj:=.raw l (recO st pe fn #[p] asg body D) (slots E.N e)
def roundJ (E:Ent) (idx:Nat) (r0 rb rd:AObj) (R:AEnd→qaa→Prop):AExit→List Deferred→Env→Prop
 | .normal,_,e=>e.h[idx]?=some rb∧∃ h',Wk E ⟨[],e.h.set idx r0⟩ ⟨[],h'⟩∧R (.ret (.val (.bool true))) h'
 | .ret,_,e=>e.h[idx]?=some rb∧∃ h',Wk E ⟨[],e.h.set idx rd⟩ ⟨[],h'⟩∧R (.ret (.val (.bool false))) h'
 | _,_,_=>False
theorem awpI_rangeY {g:Operand} {gf:FuncId} {caps:List AV} {Q:AExit→List Deferred→Env→Prop} {ds:List Deferred} {e:Env} (hg:e.get g=.fn (.func gf) [] caps) (hcaps:∀ H,qbb H caps=caps)
  (B:Nat→qaa) (X:Nat→Ex→qaa) (stop:Ex→Bool) (xs:List Ex) (k n0:Nat) (hB:e.h=B k) (len:∀ j,(B j).length=n0) (lenX:∀ j x,(X j x).length=n0) (und:∀ j,hUnder n0 (B j)=true) (undX:∀ j x,hUnder n0 (X j x)=true)
  (hsl:qal n0 (slots E.N e)=true) (hp:p<E.N)
  (hit:∀ (l:Nat) (L:qaa) (HX:Nat→Ex→qaa) (n1:Nat),YH P l (fun j=>B j++L) HX stop n1→ACalls P gf ([.fn (.yield l) [] []]++caps) (B k++L) fun r h'=>r=.ret (.tuple [])∧h'=finY (fun j=>B j++L) HX (scan stop xs k))
  (hround:∀ (E':Ent) (l D j:Nat) (x:Ex) (L:qaa) (r0 rb rd:AObj),(∀ m,n0≤m→r0.under m=true∧rb.under m=true∧rd.under m=true)→E'.N=E.N→E'.h=B j++qdl D::r0::L→hUnder E'.h.length E'.h=true→(AV.agg x.x).bd →
   AWpI P E' (some l) asg (thenI (fun ds e1=>ds=[]∧e1.h[n0+1]?=some r0 ∧
    AWpI P E' (some l) body (roundJ E' (n0+1) r0 rb rd fun r h' =>
     (stop x=true→r=.ret (Bo false)∧h'=X j x++qdl D::rd::L)∧(stop x=false→r=.ret (Bo true)∧h'=B (j+1)++qdl D::r0::L))
     [] ⟨e1.t,e1.h.set (n0+1) rb⟩) (fun _ _ _=>False)) [] ⟨(p,.agg x.x)::qdj 0 (slots E.N e),E'.h⟩)
  (hdone:∀ (j D:Nat) (o:AObj),scan stop xs k=(j,none)→Q .normal (coll D::ds) ⟨e.t,B j++[qdl D,o]⟩)
  (hstop:∀ (j:Nat) (x:Ex) (D:Nat) (o:AObj),scan stop xs k=(j,some x)→Q .ret (coll D::ds) ⟨e.t,X j x++[qdl D,o]⟩) :
  AWpI P E none (.rangeFunc g #[p] asg body) Q ds e:=by
 refine awpI_range hg fun fn D l=>?_;have hL:∀ st pe,hUnder (n0+2) [qdl D,recA E e p asg body l D fn st pe]=true:=fun st pe=>by
  simp only [hUnder,qdl,recA,AObj.under,qal,Bool.true_and,Bool.and_true];exact qb8 (by omega) _ hsl
 have hnl:qbb (e.h++[qdl D,.raw l (recO .ready none fn #[p] asg body D) (slots E.N e)]) ([.fn (.yield l) [] []]++caps)=[.fn (.yield l) [] []]++caps:=by
  have:∀ (a b:List AV) H,qbb H (a++b)=qbb H a++qbb H b:=fun a b H=>by
   induction a with
   | nil=>rfl
   | cons x a ih=>simp [qbb,ih]
  rw [this,hcaps];simp [qbb,AV.norm]
 rw [hnl,hB];have Y:YH P l (fun j=>B j++[qdl D,recA E e p asg body l D fn .ready none]) (fun j x=>X j x++[qdl D,recA E e p asg body l D fn .done (some .ret)]) stop (n0+2):={
  len:=fun j=>by simp [len]
  lenX:=fun j x=>by simp [lenX]
  und:=fun j=>by rw [qap,qas (by omega) (und j),hL];rfl
  undX:=fun j x=>by rw [qap,qas (by omega) (undX j x),hL];rfl
  y:=fun j x L=>by
   have hidx:(B j++[qdl D,recA E e p asg body l D fn .ready none]++L)[n0+1]?=some (.raw l (recO .ready none fn #[p] asg body D) (slots E.N e)):=by
    rw [List.append_assoc,List.getElem?_append_right (by rw [len];omega),len,show n0+1 - n0=1 by omega];rfl
   refine ayield_of hidx (by simpa [slots] using hp) fun E' hN hh hu hbd _=>?_;have hN':E'.N=E.N:=by rw [hN];simp [slots]
   have hh':E'.h=B j++qdl D::recA E e p asg body l D fn .ready none::L:=by rw [hh];simp
   have hun:∀ st pe m,n0≤m→(recA E e p asg body l D fn st pe).under m=true:=fun st pe m hm=>qb8 hm _ hsl;have:=hround E' l D j x L _ (recA E e p asg body l D fn .busy none) (recA E e p asg body l D fn .done (some .ret)) (fun m hm=>⟨hun _ _ m hm,hun _ _ m hm,hun _ _ m hm⟩) hN' hh' (by rw [hh];exact hu) hbd;have hJ:∀ R,roundJ E' (n0+1) (recA E e p asg body l D fn .ready none) (recA E e p asg body l D fn .busy none) (recA E e p asg body l D fn .done (some .ret)) R=roundI E' (n0+1) l fn #[p] asg body D (slots E.N e) R:=fun R=>by
    funext x ds e;cases x<;>rfl
   rw [hJ,hh'] at this;simpa [recA] using this }
 refine (hit l [qdl D,recA E e p asg body l D fn .ready none] _ (n0+2) Y).mono ?_;rintro r h' ⟨rfl,rfl⟩;refine ⟨⟨_,rfl⟩,?_⟩;rcases hsc:scan stop xs k with ⟨j,_ | x⟩
 ·
  refine ⟨.ready,none,by simp,?_,?_⟩
  ·
   simp only [finY];rw [List.getElem?_append_right (by rw [len,len];omega),len,len,show n0+1 - n0=1 by omega];rfl
  ·
   simp only [finY];rw [List.set_append_right _ _ (by rw [len,len];omega),len,len,show n0+1 - n0=1 by omega];exact hdone j D _ hsc
 ·
  refine ⟨.done,some .ret,by simp,?_,?_⟩
  ·
   simp only [finY];rw [List.getElem?_append_right (by rw [len,lenX];omega),len,lenX,show n0+1 - n0=1 by omega];rfl
  ·
   simp only [finY];rw [List.set_append_right _ _ (by rw [len,lenX];omega),len,lenX,show n0+1 - n0=1 by omega];exact awpI_ret (hstop j x D _ hsc)
end
end Go.Cw

namespace Go.Cw
open Go Go.Abs
abbrev xC (ir iw:Nat) (f:Bool):List AV:=[.mapr ir,.mapr iw,Bo f]
abbrev setO (l:List qab):AObj:=.map (kAV boAV (tru l))
theorem kvSet_bo (l:List qab) (s:qab):qby (kvSet ((tru l).map fun p=>(p.1,boAV p.2)) s (.val (.bool true)))=kAV boAV (tru (addS l s)):=by
 rw [← kSet_tru];exact kvSet_map boAV (tru l) s true
structure PH (tb:AObj) (g p ir iw:Nat) (K:XS→qaa) (n0:Nat):Prop where
 len:∀ x,(K x).length=n0
 hg:g<n0
 hp:p<n0
 hr:ir<n0
 hw:iw<n0
 lg:∀ x,(K x)[g]?=some tb
 lp:∀ x,(K x)[p]?=some (.cells (xC ir iw x.f))
 lr:∀ x,(K x)[ir]?=some (setO x.r)
 lw:∀ x,(K x)[iw]?=some (setO x.w)
 sp:∀ (x:XS) (b:Bool),(K x).set p (.cells (xC ir iw b))=K ⟨x.r,x.w,b⟩
 sr:∀ (x:XS) (l:List qab),(K x).set ir (setO l)=K ⟨l,x.w,x.f⟩
 sw:∀ (x:XS) (l:List qab),(K x).set iw (setO l)=K ⟨x.r,l,x.f⟩
 und:∀ x,hUnder n0 (K x)=true
section
variable {tb:AObj} {g p ir iw:Nat} {K:XS→qaa} {n0:Nat}
theorem PH.gl (Y:PH tb g p ir iw K n0) {i:Nat} (hi:i<n0) (q:XS) (l:qaa):(K q++l)[i]?=(K q)[i]?:=List.getElem?_append_left (by rw [Y.len];exact hi)
theorem PH.lg' (Y:PH tb g p ir iw K n0) (q:XS) (l:qaa):(K q++l)[g]?=some tb:=by rw [Y.gl Y.hg,Y.lg]
theorem PH.lp' (Y:PH tb g p ir iw K n0) (q:XS) (l:qaa):(K q++l)[p]?=some (.cells (xC ir iw q.f)):=by rw [Y.gl Y.hp,Y.lp]
theorem PH.lr' (Y:PH tb g p ir iw K n0) (q:XS) (l:qaa):(K q++l)[ir]?=some (setO q.r):=by rw [Y.gl Y.hr,Y.lr]
theorem PH.lw' (Y:PH tb g p ir iw K n0) (q:XS) (l:qaa):(K q++l)[iw]?=some (setO q.w):=by rw [Y.gl Y.hw,Y.lw]
theorem PH.sl (Y:PH tb g p ir iw K n0) {i:Nat} (hi:i<n0) (q:XS) (y:AObj) (l:qaa):(K q++l).set i y=(K q).set i y++l:=List.set_append_left _ _ (by rw [Y.len];exact hi)
theorem PH.sp' (Y:PH tb g p ir iw K n0) (q:XS) (b:Bool) (l:qaa):(K q++l).set p (.cells (xC ir iw b))=K ⟨q.r,q.w,b⟩++l:=by rw [Y.sl Y.hp,Y.sp]
theorem PH.sr' (Y:PH tb g p ir iw K n0) (q:XS) (x:List qab) (l:qaa):(K q++l).set ir (setO x)=K ⟨x,q.w,q.f⟩++l:=by rw [Y.sl Y.hr,Y.sr]
theorem PH.sw' (Y:PH tb g p ir iw K n0) (q:XS) (x:List qab) (l:qaa):(K q++l).set iw (setO x)=K ⟨q.r,x,q.f⟩++l:=by rw [Y.sl Y.hw,Y.sw]
theorem PH.und' (Y:PH tb g p ir iw K n0) (q:XS):hUnder (K q).length (K q)=true:=by rw [Y.len];exact Y.und q
theorem PH.loc (Y:PH tb g p ir iw K n0) (q:XS) (k:Nat) (l:qaa):(K q++l)[n0+k]?=l[k]?:=by rw [List.getElem?_append_right (by rw [Y.len];omega),Y.len,show n0+k - n0=k by omega]
theorem PH.loc0 (Y:PH tb g p ir iw K n0) (q:XS) (l:qaa):(K q++l)[n0]?=l[0]?:=Y.loc q 0 l
theorem PH.sloc (Y:PH tb g p ir iw K n0) (q:XS) (k:Nat) (y:AObj) (l:qaa):(K q++l).set (n0+k) y=K q++l.set k y:=by
 rw [List.set_append_right _ _ (by rw [Y.len];omega),Y.len,show n0+k - n0=k by omega]
theorem PH.sloc0 (Y:PH tb g p ir iw K n0) (q:XS) (y:AObj) (l:qaa):(K q++l).set n0 y=K q++l.set 0 y:=Y.sloc q 0 y l
theorem PH.undA (Y:PH tb g p ir iw K n0) (q:XS) (l:qaa) (k:Nat):hUnder (n0+k) (K q++l)=hUnder (n0+k) l:=by rw [qap,qas (by omega) (Y.und q)];rfl
theorem PH.ext (Y:PH tb g p ir iw K n0) (L:qaa) (hL:hUnder (n0+L.length) L=true):PH tb g p ir iw (fun q=>K q++L) (n0+L.length) where
 len:=fun s=>by rw [List.length_append,Y.len]
 hg:=by have:=Y.hg;omega
 hp:=by have:=Y.hp;omega
 hr:=by have:=Y.hr;omega
 hw:=by have:=Y.hw;omega
 lg:=fun q=>Y.lg' q L
 lp:=fun q=>Y.lp' q L
 lr:=fun q=>Y.lr' q L
 lw:=fun q=>Y.lw' q L
 sp:=fun q b=>Y.sp' q b L
 sr:=fun q x=>Y.sr' q x L
 sw:=fun q x=>Y.sw' q x L
 und:=fun q=>by rw [qap,qas (by omega) (Y.und q),hL];rfl
end
structure VM (K:XS→qaa) (i:Nat) (f:MV) (l:List (qab×AX)):Prop where
 lm:∀ x,(K x)[i]?=some (.map (kAV qcv l))
 nod:(keysM l).Nodup
 get:∀ k,qa7 l k=f k
end Go.Cw

namespace Go.Cw
open Go Go.Abs
def rngF (f:MV):Prop:=∀ k a,f k=some a→qdx a.v
theorem rng_unk:qdx unk.v:=rng_nil
theorem rngF.getD {f:MV} (h:rngF f) (k:qab):qdx ((f k).getD unk).v:=by
 cases hk:f k with
 | none=>exact rng_nil
 | some a=>exact h k a hk
theorem rngF.upd {f:MV} (h:rngF f) {s:qab} {a:AX} (ha:qdx a.v):rngF (updF f s a):=fun k b hb=>by
 unfold updF at hb;split at hb
 · cases hb;exact ha
 · exact h k b hb
theorem rngF.join {f g:MV} (h:rngF f):rngF (joinF f g):=fun k b hb=>by
 unfold joinF at hb;cases hk:f k with
 | none=>rw [hk] at hb;simp at hb
 | some a =>
  rw [hk] at hb;simp at hb;subst hb;unfold jn;split
  · exact rng_nil
  ·
   split
   · exact h k a hk
   · exact rng_nil
section
variable {fmt:Int→qab}
theorem appArgs_rng (n:Nat):∀ x∈qb2 n,rngX x:=fun x hx=>by
 unfold qb2 at hx;obtain ⟨s,hs,rfl⟩:=List.mem_map.1 hx;have:=List.mem_of_mem_take hs;refine (qdh _).2 ⟨⟨⟨by simp [varEx,Ex.n],by simp [varEx,Ex.n]⟩,?_⟩,by simp [varEx,Ex.args]⟩;simp [abL] at this;rcases this with rfl | rfl<;>simp [varEx,Ex.s]<;>decide
theorem apE_rngX (op:Int) (n:Nat):rngX (.mk op 0 em (qb2 n)):=(qdh _).2 ⟨⟨⟨by simp [Ex.n],by simp [Ex.n]⟩,by simp [Ex.s,em]⟩,appArgs_rng n⟩
theorem appVars_rng {vs:List V} (h:∀ v∈vs,qdx v):∀ q∈qbm vs,qdx q.v:=fun q hq=>by
 obtain ⟨p,hp,rfl⟩:=List.mem_map.1 hq;exact h _ (List.of_mem_zip hp).2
theorem apIn {op:Int} {vs:List V} (hf:∀ n,i64 n→qbe (fmt n)=true) (h:∀ v∈vs,qdx v):EvIn fmt (.mk op 0 em (qb2 vs.length)) (qbm vs) [] :=
 ⟨hf,apE_rngX op _,appVars_rng h,by simp,by
  have:(qbm vs).length≤2:=by simp [qbm,abL];omega
  omega⟩
theorem apE_rng {op:Int} {vs:List V} (hf:∀ n,i64 n→qbe (fmt n)=true) (h:∀ v∈vs,qdx v):qdx (apE fmt op vs).1:=by
 unfold apE evalS;split
 ·
  have hM:rngM (msV (qbm vs)):=⟨firstV_all (P:=qdx) (qbm vs) [] (appVars_rng h) (by simp),by simp [msV]⟩
  have:=(evE_ok (C:=cfgR fmt [] ⟨false,[],[]⟩) (fun q hq=>by cases hq) (.mk op 0 em (qb2 vs.length)) (msV (qbm vs)) (apE_rngX op _) hM (by simp [msV])).2;rcases hE:evE (cfgR fmt [] ⟨false,[],[]⟩) (.mk op 0 em (qb2 vs.length)) (msV (qbm vs)) with ⟨z | v,m⟩
  · exact rng_nil
  ·
   rw [hE] at this;exact this v rfl
 · exact rng_nil
mutual
theorem exE_rng (hf:∀ n,i64 n→qbe (fmt n)=true):∀ (e:Ex) (f:MV) (x:XS),rngX e→rngF f→qdx (exE fmt e f x).1.1.v
 | .mk op n s args,f,x,hX,hF=>by
  have hX':=(qdh _).1 hX;simp only [Ex.n,Ex.s,Ex.args] at hX';rw [exE];split
  · exact rng_vI hX'.1.1
  split
  · exact ⟨⟨by simp [vS,kn],by simp [vS,kn]⟩,hX'.1.2⟩
  split
  · exact hF.getD s
  have h1:=exL_rng hf args f x hX'.2 hF;rcases hL:exL fmt args f x with ⟨_ | l,x'⟩
  · exact rng_nil
  ·
   rw [hL] at h1;simp only;split
   · exact rng_nil
   split
   · exact rng_nil
   ·
    refine apE_rng hf fun v hv=>?_;obtain ⟨a,ha,rfl⟩:=List.mem_map.1 hv;exact h1 l rfl a ha
theorem exL_rng (hf:∀ n,i64 n→qbe (fmt n)=true):∀ (l:List Ex) (f:MV) (x:XS),(∀ e∈l,rngX e)→rngF f→∀ r,(exL fmt l f x).1=some r→∀ a∈r,qdx a.v
 | [],f,x,_,_,r,hr,a,ha=>by
  rw [exL] at hr;cases hr;cases ha
 | e::l,f,x,hX,hF,r,hr,a,ha=>by
  rw [exL] at hr;have h1:=exE_rng hf e f x (hX e (by simp)) hF;rcases hE:exE fmt e f x with ⟨⟨b,_ | _⟩,x'⟩
  · rw [hE] at hr;cases hr
  ·
   rw [hE] at hr h1;simp only at hr h1;have h2:=exL_rng hf l f x' (fun e he=>hX e (by simp [he])) hF;rcases hL:exL fmt l f x' with ⟨_ | q,x''⟩
   · rw [hL] at hr;cases hr
   ·
    rw [hL] at hr h2;cases hr;rcases List.mem_cons.1 ha with rfl | ha
    · exact h1
    · exact h2 q rfl a ha
end
end
theorem appArgs0:qb2 0=[]:=rfl
theorem appArgs1:qb2 1=[varEx ⟨#[97]⟩]:=rfl
theorem appArgs2:qb2 2=[varEx ⟨#[97]⟩,varEx ⟨#[98]⟩]:=rfl
theorem appVars1 {l:List AX} (h:0<l.length):(qbm (l.map (·.v))).take 1=[⟨⟨#[97]⟩,l[0].v⟩]:=by
 match l,h with
 | [a],_=>rfl
 | a::b::l,_=>rfl
theorem appVars2 {l:List AX} (h:1<l.length):(qbm (l.map (·.v))).take 2=[⟨⟨#[97]⟩,l[0].v⟩,⟨⟨#[98]⟩,l[1].v⟩]:=by
 match l,h with
 | a::b::l,_=>rfl
theorem appVars_len {l:List AX} (h:l.length≤2):(qbm (l.map (·.v))).length=l.length:=by
 simp [qbm,abL];omega
theorem chkE_ar {e:Ex} {d:Nat} (h:chkE e d=0):(e.args.length:Int)=qcp e.op∧∀ x∈e.args,chkE x (d+1)=0:=by
 rw [chkE_eq] at h;split at h
 ·
  rename_i h0;refine ⟨?_,chkL_mem h⟩;unfold qck at h0;grind
 · contradiction
theorem arity_get {op:Int} (h:op=22∨op=23∨op=24):qcp op=1:=by
 unfold qcp;grind
end Go.Cw

namespace Go.Cw
open Go Go.Abs
abbrev nilM:AV:=.val (.map none)
structure ResX (K:XS→qaa) (n0 i:Nat) (o:Option MV×XS) (Z:AV→Prop) (r:AEnd) (h':qaa):Prop where
 out:∃ L,h'=K o.2++L∧hUnder (n0+L.length) L=true ∧
  ((o.1=none∧∃ m,r=.ret (.tuple [m,Bo false])∧Z m) ∨
   (∃ f' j l',o.1=some f'∧r=.ret (.tuple [.mapr j,Bo true])∧j<n0+L.length∧VM (fun q=>K q++L) j f' l'∧(j=i∨n0≤j)))
theorem VM.ext {K:XS→qaa} {n0:Nat} (hlen:∀ x,(K x).length=n0) {i:Nat} {f:MV} {l:List (qab×AX)} (h:VM K i f l) (hi:i<n0) (L:qaa):VM (fun q=>K q++L) i f l :=
 ⟨fun q=>by
  show (K q++L)[i]?=_;rw [List.getElem?_append_left (by rw [hlen];exact hi),h.lm],h.nod,h.get⟩
theorem VM.assoc {K:XS→qaa} {A B:qaa} {i:Nat} {f:MV} {l:List (qab×AX)} (h:VM (fun q=>(K q++A)++B) i f l):VM (fun q=>K q++(A++B)) i f l :=
 ⟨fun q=>by
  have:=h.lm q;show (K q++(A++B))[i]?=_
  rwa [← List.append_assoc],h.nod,h.get⟩
theorem ResX.ext {K:XS→qaa} {n0 i:Nat} {o:Option MV×XS} {Z:AV→Prop} {r:AEnd} {h':qaa} {A:qaa} (hA:hUnder (n0+A.length) A=true) (h:ResX (fun q=>K q++A) (n0+A.length) i o Z r h'):ResX K n0 i o Z r h':=by
 obtain ⟨L,h1,h2,h3⟩:=h.out;refine ⟨A++L,by rw [h1,List.append_assoc],?_,?_⟩
 · rw [List.length_append,qap,← Nat.add_assoc,h2,qas (by omega) hA];rfl
 ·
  rcases h3 with h3 | ⟨f',j,l',e1,e2,e3,e4,e5⟩
  · exact .inl h3
  · exact .inr ⟨f',j,l',e1,e2,by rw [List.length_append];omega,e4.assoc,by omega⟩
theorem kGet_perm {α:Type} {l l':List (qab×α)} (hp:l'.Perm l) (hn:(keysM l).Nodup) (k:qab):qa7 l' k=qa7 l k:=by
 have hn':(keysM l').Nodup:=(hp.map _).nodup_iff.2 hn;cases h:qa7 l k with
 | none =>
  rw [qcs] at h ⊢;exact fun hm=>h ((hp.map _).mem_iff.1 hm)
 | some v=>exact kGet_of_mem hn' (hp.mem_iff.2 (kGet_mem h))
theorem keysM_set {α:Type} {l:List (qab×α)} (hn:(keysM l).Nodup) (s:qab) (v:α):(keysM (qbk l s v)).Nodup:=by
 induction l with
 | nil=>simp [qbk]
 | cons p l ih =>
  simp only [List.map_cons,List.nodup_cons] at hn;rw [qbk];split
  ·
   rename_i h;subst h;simpa using hn
  ·
   rename_i h;simp only [List.map_cons,List.nodup_cons];refine ⟨fun hm=>?_,ih hn.2⟩;rcases (qbv l s v p.1).1 hm with e | hm
   · exact h e
   · exact hn.1 hm
theorem VM.upd {K:XS→qaa} {i:Nat} {f:MV} {l l':List (qab×AX)} (hp:l'.Perm l) (hn:(keysM l).Nodup) (hg:∀ k,qa7 l k=f k) {s:qab} {a:AX} (hm:∀ x,(K x)[i]?=some (.map (kAV qcv (qbk l' s a)))):VM K i (updF f s a) (qbk l' s a) :=
 ⟨hm,keysM_set ((hp.map _).nodup_iff.2 hn) s a,fun k=>by
  rw [qbl,kGet_perm hp hn,hg];rfl⟩
theorem kGet_map {α β:Type} (g:qab→α→β) (l:List (qab×α)) (k:qab):qa7 (l.map fun p=>(p.1,g p.1 p.2)) k=(qa7 l k).map (g k):=by
 induction l with
 | nil=>rfl
 | cons p l ih =>
  simp only [List.map_cons,qa7,ih];split
  · rename_i h;subst h;rfl
  · rfl
theorem VM.join {K:XS→qaa} {i:Nat} {f g:MV} {la lb l':List (qab×AX)} (hp:l'.Perm (la.map fun p=>(p.1,jn p.2 (qa7 lb p.1)))) (hn:(keysM la).Nodup) (hf:∀ k,qa7 la k=f k) (hg:∀ k,qa7 lb k=g k) (hm:∀ x,(K x)[i]?=some (.map (kAV qcv l'))):VM K i (joinF f g) l':=by
 have hn2:(keysM (la.map fun p=>(p.1,jn p.2 (qa7 lb p.1)))).Nodup:=by simpa [keysM,Function.comp_def] using hn
 refine ⟨hm,(hp.map _).nodup_iff.2 hn2,fun k=>?_⟩;rw [kGet_perm hp hn2,kGet_map (fun s x=>jn x (qa7 lb s)),hf,hg];rfl
section
variable {fmt:Int→qab}
theorem cntX_rng {body:MV→XS→Option MV×XS} {name:qab} (hb:∀ f x,rngF f→∀ f',(body f x).1=some f'→rngF f'):∀ (n:Nat) (i:Int) (f:MV) (x:XS),(∀ k:Nat,k<n→i64 (i+k))→rngF f→∀ f',(cntX body name n i f x).1=some f'→rngF f'
 | 0,i,f,x,_,hF,f',h=>by rw [cntX] at h;cases h;exact hF
 | n+1,i,f,x,hi,hF,f',h=>by
  rw [cntX] at h;have h0:=hi 0 (by omega);rw [show i+((0:Nat):Int)=i by omega] at h0;have h1:=hb (updF f name (kn (vI i))) x (hF.upd (rng_vI h0));rcases hB:body (updF f name (kn (vI i))) x with ⟨_ | f1,x'⟩
  · rw [hB] at h;cases h
  ·
   rw [hB] at h h1;exact cntX_rng hb n (i+1) f1 x' (fun k hk=>by have:=hi (k+1) (by omega);rwa [show i+((k+1:Nat):Int)=i+1+k by omega] at this) (h1 f1 rfl) f' h
theorem repX_rng {body:MV→XS→Option MV×XS} {name:qab}:∀ (n:Nat) (f:MV) (x:XS),rngF f→∀ f',(repX body name n f x).1=some f'→rngF f'
 | 0,f,x,hF,f',h=>by rw [repX] at h;cases h;exact hF
 | n+1,f,x,hF,f',h=>by
  rw [repX] at h;rcases hB:body (updF f name unk) x with ⟨o,x'⟩;rw [hB] at h;simp only at h;split at h
  · cases h
  ·
   cases o with
   | none=>cases h;exact hF
   | some f1=>exact repX_rng n (joinF f f1) x' hF.join f' h
theorem brX_rng {r1:Option MV×XS} {e:XS→Option MV×XS} (h1:∀ f',r1.1=some f'→rngF f') (h2:∀ x f',(e x).1=some f'→rngF f'):∀ f',(brX r1 e).1=some f'→rngF f':=fun f' h=>by
 unfold brX at h;split at h
 · cases h
 split at h
 · cases h
 ·
  cases ha:r1.1 with
  | none =>
   rw [ha] at h;exact h2 _ _ h
  | some f =>
   cases hb:(e r1.2).1 with
   | none=>rw [ha,hb] at h;cases h;exact h1 _ ha
   | some g=>rw [ha,hb] at h;cases h;exact (h1 _ ha).join
mutual
theorem exSt_rng (hf:∀ n,i64 n→qbe (fmt n)=true):∀ (t:St) (f:MV) (x:XS),rngS t→rngF f→∀ f',(exSt fmt t f x).1=some f'→rngF f'
 | .mk op name mx a b body els,f,x,hS,hF,f',h=>by
  obtain ⟨hA,hB,hbo,hel⟩:=(qdy _).1 hS;simp only [St.a,St.b,St.body,St.els] at hA hB hbo hel;rw [exSt] at h;split at h
  · cases h
  have h1:=exE_rng hf a f x hA hF;rcases hE:exE fmt a f x with ⟨⟨va,_ | _⟩,x1⟩
  · rw [hE] at h;cases h
  rw [hE] at h h1;simp only at h h1;split at h
  · cases h;exact hF.upd h1
  split at h
  · cases h;exact hF
  split at h
  ·
   split at h
   · cases h;exact hF
   · cases h
  split at h
  ·
   split at h
   · exact exBl_rng hf body f x1 hbo hF f' h
   split at h
   · exact exBl_rng hf els f x1 hel hF f' h
   · exact brX_rng (fun g hg=>exBl_rng hf body f x1 hbo hF g hg) (fun y g hg=>exBl_rng hf els f y hel hF g hg) f' h
  have h2:=exE_rng hf b f x1 hB hF;rcases hE2:exE fmt b f x1 with ⟨⟨vb,_ | _⟩,x2⟩
  · rw [hE2] at h;cases h
  rw [hE2] at h h2;simp only at h h2;split at h
  ·
   split at h
   · cases h;exact hF
   · cases h
  split at h
  ·
   split at h
   · cases h
   ·
    refine cntX_rng (fun g y hG g' hg=>exBl_rng hf body g y hbo hG g' hg) _ _ _ _ (fun k hk=>?_) hF f' h;have:=h1.1;have:=h2.1;unfold i64 at *;omega
  · exact repX_rng _ _ _ hF f' h
theorem exBl_rng (hf:∀ n,i64 n→qbe (fmt n)=true):∀ (l:List St) (f:MV) (x:XS),(∀ t∈l,rngS t)→rngF f→∀ f',(qdu fmt l f x).1=some f'→rngF f'
 | [],f,x,_,hF,f',h=>by rw [qdu] at h;cases h;exact hF
 | t::l,f,x,hS,hF,f',h=>by
  rw [qdu] at h;have h1:=exSt_rng hf t f x (hS t (by simp)) hF;rcases hE:exSt fmt t f x with ⟨_ | g,x'⟩
  · rw [hE] at h;cases h
  ·
   rw [hE] at h h1;exact exBl_rng hf l g x' (fun s hs=>hS s (by simp [hs])) (h1 g rfl) f' h
end
end
end Go.Cw

namespace Go.Cw
open Go Go.Abs
structure BA where
 f:MV
 j:Nat
 lv:List (qab×AX)
 x:XS
 L:qaa
structure BOk (K:XS→qaa) (n0 i:Nat) (a:BA):Prop where
 vm:VM (fun q=>K q++a.L) a.j a.f a.lv
 lt:a.j<n0+a.L.length
 und:hUnder (n0+a.L.length) a.L=true
 rng:rngF a.f
 fr:a.j=i∨n0≤a.j
section
@[simp] theorem kvSet_ax (l:List (qab×AX)) (s:qab) (b:Bool) (k n:Int) (z:qab):qby (kvSet (l.map fun p=>(p.1,qcv p.2)) s (.agg [Bo b,I k,I n,S z]))=kAV qcv (qbk l s ⟨b,⟨k,n,z⟩⟩):=kvSet_map qcv l s ⟨b,⟨k,n,z⟩⟩
theorem qdd (n:Nat) (l:List (qab×AX)):(AObj.map (kAV qcv l)).under n=true:=by
 simp only [AObj.under,List.all_eq_true,Bool.and_eq_true];rintro ⟨a,b⟩ h;exact kAV_under n l a b h
variable {tb:AObj} {g p ir iw:Nat} {K:XS→qaa} {n0 i:Nat}
theorem und_cat (Y:PH tb g p ir iw K n0) (z:XS) {M:qaa} (hM:hUnder (n0+M.length) M=true):hUnder (K z++M).length (K z++M)=true:=by
 rw [List.length_append,Y.len,qap,qas (by omega) (Y.und z),hM];rfl
theorem qb0 {n:Nat} {A B:qaa} (hA:hUnder (n+A.length) A=true) (hB:hUnder (n+A.length+B.length) B=true):hUnder (n+(A++B).length) (A++B)=true:=by
 rw [List.length_append,qap,← Nat.add_assoc,hB,qas (by omega) hA];rfl
theorem qbq (Y:PH tb g p ir iw K n0) {N:Nat} (hN:N≤n0) {z:XS} {M H:qaa} (hM:hUnder (n0+M.length) M=true) (hH:H=K z++M) {m:AV} (hm:m=nilM∨∃ j,m=.mapr j∧j<n0+M.length) {R0:Option MV×XS} {Z:AV→Prop} (hZ:Z m) (ho:R0=(none,z)) :
  ∃ r',(AV.tuple [m,Bo false]).Wk r'∧∃ x1,AV.under (List.length x1) r'=true∧hwk H x1∧N≤x1.length∧hUnder x1.length x1=true∧ResX K n0 i R0 Z (.ret r') x1:=by
 subst hH;subst ho;refine ⟨_,.refl _,K z++M,?_,hwk.refl _,by simp [Y.len];omega,und_cat Y z hM,⟨M,rfl,hM,.inl ⟨rfl,m,rfl,hZ⟩⟩⟩;rcases hm with rfl | ⟨j,rfl,hj⟩
 · simp [go_sem]
 · simp [go_sem,Y.len];omega
theorem qcg (Y:PH tb g p ir iw K n0) {N:Nat} (hN:N≤n0) {z:XS} {M H:qaa} (hM:hUnder (n0+M.length) M=true) (hH:H=K z++M) {j:Nat} {f:MV} {l:List (qab×AX)} (hV:VM (fun q=>K q++M) j f l) (hj:j<n0+M.length) (hfr:j=i∨n0≤j) {R0:Option MV×XS} {Z:AV→Prop} (ho:R0=(some f,z)) :
  ∃ r',(AV.tuple [.mapr j,Bo true]).Wk r'∧∃ x1,AV.under (List.length x1) r'=true∧hwk H x1∧N≤x1.length∧hUnder x1.length x1=true∧ResX K n0 i R0 Z (.ret r') x1:=by
 subst hH;subst ho;refine ⟨_,.refl _,K z++M,?_,hwk.refl _,by simp [Y.len];omega,und_cat Y z hM,⟨M,rfl,hM,.inr ⟨f,j,l,rfl,rfl,hj,hV,hfr⟩⟩⟩;simp [go_sem,Y.len];omega
end
end Go.Cw

namespace Go.Cw
open Go Go.Abs
structure Txn where
 id:Int
 proc:qab
 args:List V
 ft:Foot
 att:Int
def Txn.c (t:Txn):List AV:=[I t.id,S t.proc,.slice (t.args.map V.c),Bo t.ft.all,.slice (t.ft.reads.map qaz),.slice (t.ft.writes.map qaz),I t.att]
def findN (procs:List Proc) (name:qab):Option Proc:=procs.find? fun p=>decide (p.name=name)
def findP (procs:List Proc) (t:Txn):Option Proc :=
 match findN procs t.proc with
 | none=>none
 | some p=>if qcq p t.args=0 then some p else none
section
variable (fmt:Int→qab)
def oneS (procs:List Proc) (s:List Pr) (t:Txn):List Pr×Eff :=
 match findP procs t with
 | none=>(s,wrongE)
 | some p=>if (runS fmt p t.args s t.ft).status=1 then (applyP s (runS fmt p t.args s t.ft).writes,runS fmt p t.args s t.ft) else (s,runS fmt p t.args s t.ft)
def roundS (procs:List Proc) (s:List Pr) (l:List Txn):List Pr×List Eff :=
 l.foldl (fun y t=>((oneS fmt procs y.1 t).1,y.2++[(oneS fmt procs y.1 t).2])) (s,[])
end
def wroteS (e:Eff) (k:qab):Bool:=decide (e.status=1)&&hasP e.writes k
def applyE (s:List Pr) (e:Eff):List Pr:=if e.status=1∧qbd s=true∧writesOk e.writes=true then applyP s e.writes else s
section
variable (fmt:Int→qab)
end
structure BatchIn (fmt:Int→qab) (procs:List Proc) (l:List Txn):Prop where
 fmt:∀ n,i64 n→qbe (fmt n)=true
 body:∀ p∈procs,∀ t∈p.body,rngS t
 args:∀ t∈l,∀ v∈t.args,qdx v
abbrev rngL (s:List Pr):Prop:=∀ q∈s,qdx q.v
section
variable {fmt:Int→qab}
structure OneOk (s:List Pr) (x:List Pr×Eff):Prop where
 rng:rngL x.1
 len:x.1.length≤s.length+64
 ok:qbd s=true→qbd x.1=true
 no:qbd s=false→x.1=s
 get:∀ k,wroteS x.2 k=false→getP x.1 k=getP s k
 upd:x.1=applyE s x.2
 rds:x.2.reads.length≤64
 wrs:x.2.writes.length≤64
 wrng:rngL x.2.writes
 com:x.2.status=1→qbd s=true∧writesOk x.2.writes=true
structure RoundOk (s:List Pr) (n:Nat) (x:List Pr×List Eff):Prop where
 rng:rngL x.1
 len:x.1.length≤s.length+64 * n
 cnt:x.2.length=n
 ok:qbd s=true→qbd x.1=true
 no:qbd s=false→x.1=s
 get:∀ k,(∀ e∈x.2,wroteS e k=false)→getP x.1 k=getP s k
 rds:∀ e∈x.2,e.reads.length≤64
 wrs:∀ e∈x.2,e.writes.length≤64
 wrng:∀ e∈x.2,rngL e.writes
theorem BatchIn.take {procs:List Proc} {l:List Txn} (h:BatchIn fmt procs l) (n:Nat):BatchIn fmt procs (l.take n):=⟨h.fmt,h.body,fun x hx=>h.args x (List.mem_of_mem_take hx)⟩
end
end Go.Cw

namespace Go.Cw
open Go Go.Abs
theorem alike_recon (C:Cfg) (R P:List qab) (hC:C.all=true):Alike C { C with all:=false,rd:=R,wr:=P } Grow (fun _ m=>(∀ k∈m.reads,k∈R)∧∀ k∈m.puts,k∈P) where
 K:=grow_keeps C
 fmt:=rfl
 mono:=fun h g=>⟨fun k hk=>g.1 k (h.1 k hk),fun k hk=>g.2 k (h.2.1 k hk)⟩
 fetch:=fun k s h=>by
  unfold qbr at h ⊢;by_cases h0:qdt k=false
  · rw [if_pos h0,if_pos h0]
  ·
   rw [if_neg h0] at h;rw [if_neg h0,if_neg h0];rcases hg:qa7 s.own k with _ | v
   ·
    rw [hg] at h;simp only at h ⊢;rw [if_neg (by simp [hC])] at h;have hk:k∈R:=h.1 k (withS_mem.2 (.inl rfl));rw [if_neg (c:=C.all=false∧_) (by simp [hC]),if_neg (by simp [hasK_iff.2 hk])]
   · rfl
 store:=fun k v s h=>by
  unfold qbi at h ⊢;by_cases h0:qdt k=false
  · rw [if_pos h0,if_pos h0]
  ·
   rw [if_neg h0,if_neg (by simp [hC])] at h;have hk:k∈P:=h.2 k (withS_mem.2 (.inl rfl));rw [if_neg h0,if_neg h0];rw [if_neg (c:=C.all=false∧_) (by simp [hC]),if_neg (by simp [hasK_iff.2 hk])]
section
variable {fmt:Int→qab} {p:Proc} {args:List V} {st:List Pr}
abbrev qdm:Foot:=⟨true,[],[]⟩
abbrev ftOf (e:Eff):Foot:=⟨false,e.reads,e.puts⟩
theorem footOk_of (hI:RunIn fmt p args st) (ft:Foot) (hc:qbx p=0):qdb false (runS fmt p args st ft).reads (runS fmt p args st ft).puts=true:=by
 have h1:=run_bounds (ft:=ft) hI hc;have h2:=cost_lim hc;have ha:=run_asc (fmt:=fmt) (p:=p) (args:=args) (st:=st) (ft:=ft);unfold qdb;rw [if_neg (by simp)];simp only [Bool.and_eq_true,decide_eq_true_eq];refine ⟨⟨(ascK_iff _ _).2 ⟨fun k hk=>(run_reads hk).2.1,ha.1,fun k h=>by cases h⟩,by omega⟩,⟨(ascK_iff _ _).2 ⟨fun k hk=>(run_puts hk).1,ha.2,fun k h=>by cases h⟩,by omega⟩⟩
theorem run_recon (hI:RunIn fmt p args st):runS fmt p args st (ftOf (runS fmt p args st qdm))=runS fmt p args st qdm:=by
 by_cases hr:runOk p args st qdm
 ·
  have hr':=(qb9 _ _ _ _).1 hr;have hr2:runOk p args st (ftOf (runS fmt p args st qdm)):=(qb9 _ _ _ _).2 ⟨hr'.1,hr'.2.1,hr'.2.2.1,footOk_of hI qdm hr'.1⟩;rw [qco hr2];have e1:=qco (fmt:=fmt) hr;have e2:ftOf (runS fmt p args st qdm)=⟨false,(qcu (cfgR fmt st qdm) p.body (ms0 p args)).2.reads,(qcu (cfgR fmt st qdm) p.body (ms0 p args)).2.puts⟩:=by rw [e1,ftOf,done_reads,done_puts]
  rw [e2,e1];have:=two_blk (alike_recon (cfgR fmt st qdm) (qcu (cfgR fmt st qdm) p.body (ms0 p args)).2.reads (qcu (cfgR fmt st qdm) p.body (ms0 p args)).2.puts rfl) p.body (ms0 p args) ⟨fun _ h=>h,fun _ h=>h⟩;exact congrArg doneS this
 ·
  rw [runS_no hr];refine runS_no fun h=>hr ?_;have:=(qb9 _ _ _ _).1 h;exact (qb9 _ _ _ _).2 ⟨this.1,this.2.1,this.2.2.1,footOk_all⟩
end
section
variable (fmt:Int→qab)
def reconS (p:Proc) (args:List V) (st:List Pr):Foot×Int :=
 if qbx p≠0∨qcq p args≠0∨qbd st=false then (⟨false,[],[]⟩,1) else (ftOf (runS fmt p args st qdm),0)
structure Res where
 id:Int
 att:Int
 status:Int
 code:Int
 out:List V
def Res.c (r:Res):List AV:=[I r.id,I r.att,I r.status,I r.code,.slice (r.out.map V.c)]
def Res.z:Res:=⟨0,0,0,0,[]⟩
end
section
variable {fmt:Int→qab}
end
end Go.Cw

namespace Go.Cw
open Go Go.Abs
section
variable {fmt:Int→qab}
structure Tal (L:List Txn) (l:List Txn) (is:List Nat) (out:List Res):Prop where
 len:is.length=l.length
 ol:out.length=L.length
 nod:is.Nodup
 lt:∀ i∈is,i<L.length
 id:∀ j (h:j<l.length) (h':j<is.length) (h2:is[j]<L.length),l[j].id=L[is[j]].id
 done:∀ i (h:i<L.length) (h':i<out.length),i∈is∨(out[i].id=L[i].id∧(out[i].status=1∨out[i].status=2))
end
end Go.Cw
