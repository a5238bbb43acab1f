/- Part 23 of a proof: CwK, CwPa, CwL, CwM, CwN, CwO -/
import Derived.Test.YtilhejdbiionhaaGreatDoorQ22
set_option linter.all false

namespace Go.Cw
open Go Go.Abs
theorem i64_w (n:Int):i64 (W64 n):=i64_wrap n
theorem i64_neg (a:Int):i64 (numNeg a).1:=by
 unfold numNeg;split
 · exact ⟨by decide,by decide⟩
 · exact i64_w _
theorem i64_mod {a b:Int} (hb:i64 b):i64 (numMod a b).1:=by
 unfold numMod;split
 · exact ⟨by decide,by decide⟩
 split
 · exact ⟨by decide,by decide⟩
 split
 · exact i64_w _
 ·
  rename_i h0 _ _;have h1:(a.tmod b).natAbs=a.natAbs % b.natAbs:=Int.natAbs_tmod a b;have h2:a.natAbs % b.natAbs<b.natAbs:=Nat.mod_lt _ (by omega);have:=hb.1;have:=hb.2;simp only [i64];omega
theorem i64_arith {op a b:Int} {v:V} (hb:i64 b) (h:qd6 op a b=.ok v):qdx v:=by
 have hx:∀ r:Int×Int,i64 r.1→qce r=.ok v→qdx v:=fun r hr hv=>by
  unfold qce at hv;split at hv
  · cases hv;exact ⟨hr,by simp [vI,em]⟩
  · split at hv<;>cases hv
 unfold qd6 at h;have hz:i64 0:=⟨by decide,by decide⟩
 split at h
 ·
  refine hx _ ?_ h;unfold numAdd;split
  · exact hz
  · exact i64_w _
 split at h
 ·
  refine hx _ ?_ h;unfold qda;split
  · exact hz
  · exact i64_w _
 split at h
 ·
  refine hx _ ?_ h;unfold numMul;split
  · exact hz
  split
  · exact i64_neg _
  split
  · exact i64_neg _
  split
  · exact hz
  · exact i64_w _
 split at h
 ·
  refine hx _ ?_ h;unfold numDiv;split
  · exact hz
  split
  · exact i64_neg _
  split
  · exact i64_w _
  · exact i64_w _
 · exact hx _ (i64_mod hb) h
theorem rng_vB (b:Bool):qdx (vB b):=by cases b<;>exact ⟨⟨by decide,by decide⟩,by simp [vB,em]⟩
theorem rng_vI {n:Int} (h:i64 n):qdx (vI n):=⟨h,by simp [vI,em]⟩
theorem rng_text {s:qab} {v:V} (h:textS s=.ok v):qdx v:=by
 unfold textS at h;split at h
 · cases h
 ·
  cases h;exact ⟨⟨by simp [vS],by simp [vS]⟩,by simp only [vS];omega⟩
theorem rng_bin {op:Int} {a b v:V} (hb:qdx b) (h:binS op a b=.ok v):qdx v:=by
 unfold binS at h;split at h
 ·
  split at h
  · exact i64_arith hb.1 h
  · cases h
 split at h
 ·
  split at h
  · cases h;exact rng_vB _
  · cases h
 split at h
 ·
  split at h
  · cases h;exact rng_vB _
  · cases h
 split at h
 ·
  split at h
  · exact rng_text h
  · cases h
 ·
  unfold compS at h;split at h
  · cases h;exact rng_vB _
  · cases h
def rngC (C:Cfg):Prop:=∀ p∈C.state,qdx p.v
def rngM (s:MS):Prop:=(∀ p∈s.vars,qdx p.2)∧∀ p∈s.own,qdx p.2
theorem rng_nil:qdx V.nil:=⟨⟨by decide,by decide⟩,by simp [V.nil]⟩
theorem rng_getP {l:List Pr} (h:∀ p∈l,qdx p.v) (k:qab):qdx (getP l k):=by
 induction l with
 | nil=>exact rng_nil
 | cons p l ih =>
  rw [getP];split
  · exact h p (by simp)
  · exact ih fun q hq=>h q (by simp [hq])
theorem kGet_mem {α:Type} {l:List (qab×α)} {k:qab} {v:α} (h:qa7 l k=some v):(k,v)∈l:=by
 induction l with
 | nil=>cases h
 | cons p l ih =>
  rw [qa7] at h;split at h
  · rename_i hp;cases h;subst hp;simp
  · simp [ih h]
theorem kSet_mem {α:Type} {l:List (qab×α)} {k:qab} {v:α} {p:qab×α} (h:p∈qbk l k v):p=(k,v)∨p∈l:=by
 induction l with
 | nil=>simpa [qbk] using h
 | cons q l ih =>
  rw [qbk] at h;split at h
  ·
   rcases List.mem_cons.1 h with h | h
   · exact .inl h
   · exact .inr (by simp [h])
  ·
   rcases List.mem_cons.1 h with h | h
   · exact .inr (by simp [h])
   ·
    rcases ih h with h | h
    · exact .inl h
    · exact .inr (by simp [h])
structure EvOk (s:MS) (n:Nat) (s':MS):Prop where
 eq:s' = { s with reads:=s'.reads }
 asc:ascS s'.reads
 len:s'.reads.length≤s.reads.length+n
theorem EvOk.refl {s:MS} (h:ascS s.reads) (n:Nat):EvOk s n s:=⟨rfl,h,by omega⟩
theorem EvOk.trans {s t u:MS} {n k:Nat} (h:EvOk s n t) (g:EvOk t k u):EvOk s (n+k) u:=by
 refine ⟨?_,g.asc,by have:=h.len;have:=g.len;omega⟩;have h1:=h.eq;have h2:=g.eq;rw [h1] at h2;exact h2
theorem EvOk.mono {s t:MS} {n k:Nat} (h:EvOk s n t) (hk:n≤k):EvOk s k t:=⟨h.eq,h.asc,by have:=h.len;omega⟩
theorem EvOk.rng {s t:MS} {n:Nat} (h:EvOk s n t) (hr:rngM s):rngM t:=by rw [h.eq];exact hr
theorem EvOk.steps {s t:MS} {n:Nat} (h:EvOk s n t):t.steps=s.steps:=by rw [h.eq]
theorem EvOk.vars {s t:MS} {n:Nat} (h:EvOk s n t):t.vars=s.vars:=by rw [h.eq]
theorem EvOk.out {s t:MS} {n:Nat} (h:EvOk s n t):t.out=s.out:=by rw [h.eq]
theorem EvOk.puts {s t:MS} {n:Nat} (h:EvOk s n t):t.puts=s.puts:=by rw [h.eq]
section
variable {C:Cfg}
theorem fetch_ok (hC:rngC C) {s:MS} (hM:rngM s) (ha:ascS s.reads) (k:qab):EvOk s 1 (qbr C k s).2∧∀ v,(qbr C k s).1=.ok v→qdx v:=by
 unfold qbr;split
 · exact ⟨.refl ha _,fun v h=>by cases h⟩
 split
 ·
  rename_i w hw;exact ⟨.refl ha _,fun v h=>by cases h;exact hM.2 _ (kGet_mem hw)⟩
 split
 · exact ⟨.refl ha _,fun v h=>by cases h⟩
 · exact ⟨⟨rfl,withS_asc ha k,withS_len _ _⟩,fun v h=>by cases h;exact rng_getP hC k⟩
theorem op_ok (hC:rngC C) {s:MS} (hM:rngM s) (ha:ascS s.reads) (op:Int) {l:List V} (hl:∀ v∈l,qdx v):EvOk s 1 (opS C op l s).2∧∀ v,(opS C op l s).1=.ok v→qdx v:=by
 unfold opS;split
 ·
  rename_i a;unfold unS;have hx:∀ v,qce (numNeg a.n)=.ok v→qdx v:=fun v hv=>by
   unfold qce at hv;split at hv
   · cases hv;exact rng_vI (i64_neg _)
   · split at hv<;>cases hv
  split
  ·
   refine ⟨.refl ha _,fun v h=>?_⟩;split at h
   · exact hx v h
   · cases h
  split
  ·
   refine ⟨.refl ha _,fun v h=>?_⟩;split at h
   · cases h;exact rng_vB _
   · cases h
  split
  ·
   refine ⟨.refl ha _,fun v h=>?_⟩;split at h
   · exact rng_text h
   · cases h
  split
  ·
   refine ⟨.refl ha _,fun v h=>?_⟩;split at h
   ·
    cases h;have:=(hl a (by simp)).2;exact rng_vI ⟨by omega,by omega⟩
   · cases h
  split
  · exact ⟨.refl ha _,fun v h=>by cases h⟩
  ·
   have hf:=fetch_ok hC hM ha a.s;split
   ·
    rename_i z m' hz;rw [hz] at hf;exact ⟨hf.1,fun v h=>by cases h⟩
   ·
    rename_i w m' hz;rw [hz] at hf;refine ⟨hf.1,fun v h=>?_⟩;simp only [gotS] at h;split at h
    · cases h;exact rng_vB _
    split at h
    · cases h;exact rng_vI ⟨by decide,by decide⟩
    split at h
    · exact rng_text h
    split at h
    · cases h
    · cases h;exact hf.2 _ rfl
 · exact ⟨.refl ha _,fun v h=>rng_bin (hl _ (by simp)) h⟩
 · exact ⟨.refl ha _,fun v h=>by cases h⟩
mutual
theorem evE_ok (hC:rngC C):∀ (e:Ex) (s:MS),rngX e→rngM s→ascS s.reads→EvOk s (nodes e) (evE C e s).2∧∀ v,(evE C e s).1=.ok v→qdx v
 | .mk op n t args,s,hX,hM,ha=>by
  have hX':=(qdh _).1 hX;simp only [Ex.n,Ex.s,Ex.args] at hX';rw [evE];split
  · exact ⟨.refl ha _,fun v h=>by cases h;exact rng_vI hX'.1.1⟩
  split
  · exact ⟨.refl ha _,fun v h=>by cases h;exact ⟨⟨by simp [vS],by simp [vS]⟩,hX'.1.2⟩⟩
  split
  ·
   refine ⟨.refl ha _,fun v h=>?_⟩;simp only at h;split at h
   ·
    rename_i w hw;cases h;exact hM.1 _ (kGet_mem hw)
   · cases h
  ·
   have hL:=evL_ok hC args s hX'.2 hM ha;have hn:nodes (.mk op n t args)=nodesL args+1:=nodes_eq _;split
   ·
    rename_i z m' hz;rw [hz] at hL;exact ⟨hL.1.mono (by omega),fun v h=>by cases h⟩
   ·
    rename_i l m' hz;rw [hz] at hL;have ho:=op_ok hC (hL.1.rng hM) hL.1.asc op (l:=l) (hL.2 l rfl);exact ⟨(hL.1.trans ho.1).mono (by omega),ho.2⟩
theorem evL_ok (hC:rngC C):∀ (l:List Ex) (s:MS),(∀ e∈l,rngX e)→rngM s→ascS s.reads→EvOk s (nodesL l) (evL C l s).2∧∀ r,(evL C l s).1=.ok r→∀ v∈r,qdx v
 | [],s,_,_,ha=>by
  rw [evL];exact ⟨.refl ha _,fun r h=>by cases h;simp⟩
 | e::l,s,hX,hM,ha=>by
  have hE:=evE_ok hC e s (hX e (by simp)) hM ha;rw [evL,nodesL_cons];split
  ·
   rename_i z m' hz;rw [hz] at hE;exact ⟨hE.1.mono (by omega),fun r h=>by cases h⟩
  ·
   rename_i w m' hz;rw [hz] at hE;have hL:=evL_ok hC l m' (fun x hx=>hX x (by simp [hx])) (hE.1.rng hM) hE.1.asc;split
   ·
    rename_i z m'' hz';rw [hz'] at hL;exact ⟨hE.1.trans hL.1,fun r h=>by cases h⟩
   ·
    rename_i r' m'' hz';rw [hz'] at hL;refine ⟨hE.1.trans hL.1,fun r h=>?_⟩;cases h;intro v hv;rcases List.mem_cons.1 hv with rfl | hv
    · exact hE.2 _ rfl
    · exact hL.2 _ rfl v hv
end
end
end Go.Cw

namespace Go.Cw
open Go Go.Abs
structure AX where
 known:Bool
 v:V
def AX.c (a:AX):List AV:=[Bo a.known,I a.v.k,I a.v.n,S a.v.s]
def qcv (a:AX):AV:=.agg a.c
abbrev keysM {α:Type} (l:List (qab×α)):List qab:=l.map (·.1)
theorem kSet_new {α:Type} {s:qab} {v:α}:∀ {l:List (qab×α)},s∉keysM l→qbk l s v=l++[(s,v)]
 | [],_=>rfl
 | p::l,h=>by
  simp only [List.map_cons,List.mem_cons,not_or] at h;rw [qbk,if_neg fun e=>h.1 e.symm,kSet_new h.2];rfl
def pickL {α:Type} (l:List α) (js:List Nat):List α:=js.filterMap fun j=>l[j]?
theorem pickL_snoc {α:Type} {l:List α} {js:List Nat} {j:Nat} (h:j<l.length):pickL l (js++[j])=pickL l js++[l[j]]:=by
 simp [pickL,List.filterMap_append,h]
theorem pickL_perm {α:Type} {l:List α} {js:List Nat} (h:js.Perm (List.range l.length)):(pickL l js).Perm l:=by
 have h1:(pickL l js).Perm (pickL l (List.range l.length)):=h.filterMap _;have h2:pickL l (List.range l.length)=l:=by
  have:∀ n,n≤l.length→pickL l (List.range n)=l.take n:=fun n=>by
   induction n with
   | zero=>intro _;simp [pickL]
   | succ n ih =>
    intro hn;rw [List.range_succ,pickL_snoc (by omega),ih (by omega),List.take_succ_eq_append_getElem (by omega)]
  have:=this l.length (Nat.le_refl _)
  rwa [List.take_length] at this
 rwa [h2] at h1
theorem pickL_new {α:Type} {l:List (qab×α)} (hn:(keysM l).Nodup) {js:List Nat} {j:Nat} (hj:j<l.length) (hlt:∀ x,x∈js→x<l.length) (hno:j∉js):l[j].1∉keysM (pickL l js):=fun hm=>by
 obtain ⟨p,hp,e⟩:=List.mem_map.1 hm;obtain ⟨x,hx,hxp⟩:=List.mem_filterMap.1 hp;obtain ⟨hxl,rfl⟩:=List.getElem?_eq_some_iff.1 hxp;have:(keysM l)[x]'(by simpa using hxl)=(keysM l)[j]'(by simpa using hj):=by simpa using e
 exact hno ((List.getElem_inj hn).1 this▸hx)
theorem kAV_under (n:Nat) (l:List (qab×AX)) (a b:AV) (h:(a,b)∈kAV qcv l):AV.under n a=true∧AV.under n b=true:=by
 unfold kAV qby at h;simp only [List.map_map,List.mem_map,Function.comp] at h;obtain ⟨p,_,e⟩:=h;cases e;simp [qcv,AX.c,go_sem]
end Go.Cw

namespace Go.Cw
open Go Go.Abs
@[simp] theorem kvSet_vI (l:List (qab×V)) (s:qab) (i:Int):qby (kvSet (l.map fun p=>(p.1,vAV p.2)) s (.agg [I 1,I i,S em]))=kAV vAV (qbk l s (vI i)):=kvSet_map vAV l s (vI i)
def goX (e:Ex):Prop:=rngX e∧nodes e≤4095
def goS:St→Prop
 | .mk op _ _ a b body els=>(op≠8→goX a)∧(op=3∨op=6→goX b)∧(∀ x∈body.attach,goS x.1)∧∀ x∈els.attach,goS x.1
termination_by s=>SizeOf.sizeOf s
decreasing_by
 all_goals
  have:=List.sizeOf_lt_of_mem x.2;simp only [St.mk.sizeOf_spec];omega
theorem goS_iff (t:St):goS t↔(t.op≠8→goX t.a)∧(t.op=3∨t.op=6→goX t.b)∧(∀ x∈t.body,goS x)∧∀ x∈t.els,goS x:=by
 cases t with
 | mk op name mx a b body els =>
  rw [goS];simp [St.op,St.a,St.b,St.body,St.els]
structure Inv (r p:Nat) (s:MS):Prop where
 rng:rngM s
 ar:ascS s.reads
 ap:ascS s.puts
 st:s.steps≤16384
 rd:((s.reads.length+r:Nat):Int)≤8192 * s.steps
 pt:((s.puts.length+p:Nat):Int)≤s.steps
 ot:s.out.length≤16
theorem Inv.mono {r p r' p':Nat} {s:MS} (h:Inv r p s) (h1:r'≤r) (h2:p'≤p):Inv r' p' s:=⟨h.rng,h.ar,h.ap,h.st,by have:=h.rd;omega,by have:=h.pt;omega,h.ot⟩
theorem Inv.ev {r p n:Nat} {s t:MS} (h:Inv (r+n) p s) (g:EvOk s n t):Inv r p t:=by
 have h1:=h.rd;have h2:=g.len;refine ⟨g.rng h.rng,g.asc,by rw [g.puts];exact h.ap,by rw [g.steps];exact h.st,by rw [g.steps];omega,by rw [g.steps,g.puts];exact h.pt,by rw [g.out];exact h.ot⟩
theorem Inv.tick {s t:MS} {u:Unit} (h:Inv 0 0 s) (g:qc2 s=(.ok u,t)):Inv 8192 1 t:=by
 unfold qc2 at g;split at g
 · cases g
 ·
  cases g;exact ⟨h.rng,h.ar,h.ap,by simp only;omega,by have:=h.rd;simp only;omega,by have:=h.pt;simp only;omega,h.ot⟩
theorem rngM_vars {s:MS} (h:rngM s) {v:V} (hv:qdx v) (k:qab):rngM { s with vars:=qbk s.vars k v }:=⟨fun p hp=>by
 rcases kSet_mem hp with rfl | hp
 · exact hv
 · exact h.1 p hp,h.2⟩
theorem Inv.vars {r p:Nat} {s:MS} (h:Inv r p s) {v:V} (hv:qdx v) (k:qab):Inv r p { s with vars:=qbk s.vars k v }:=⟨rngM_vars h.rng hv k,h.ar,h.ap,h.st,h.rd,h.pt,h.ot⟩
section
variable {C:Cfg}
theorem Inv.store {r:Nat} {s t:MS} {u:Unit} {k:qab} {v:V} (h:Inv r 1 s) (hv:qdx v) (g:qbi C k v s=(.ok u,t)):Inv r 0 t:=by
 unfold qbi at g;split at g
 · cases g
 split at g
 · cases g
 ·
  cases g;refine ⟨⟨h.rng.1,fun p hp=>?_⟩,h.ar,withS_asc h.ap k,h.st,h.rd,?_,h.ot⟩
  ·
   rcases kSet_mem hp with rfl | hp
   · exact hv
   · exact h.rng.2 p hp
  ·
   have:=withS_len s.puts k;have:=h.pt;simp only;omega
theorem Inv.emit {r p:Nat} {s t:MS} {u:Unit} {v:V} (h:Inv r p s) (g:emitS v s=(.ok u,t)):Inv r p t:=by
 unfold emitS at g;split at g
 · cases g
 ·
  rename_i hn;cases g;exact ⟨h.rng,h.ar,h.ap,h.st,h.rd,h.pt,by have:=h.ot;simp;omega⟩
theorem Inv.eval (hC:rngC C) {r p:Nat} {s:MS} {e:Ex} (h:Inv (r+4095) p s) (he:goX e):Inv r p (evE C e s).2∧∀ v,(evE C e s).1=.ok v→qdx v:=by
 have h1:=evE_ok hC e s he.1 h.rng h.ar;exact ⟨h.ev (h1.1.mono he.2),h1.2⟩
theorem loop_ok {body:MS→Except Stop Unit×MS} {name:qab} {b:Int} (hb:∀ s u t,Inv 8192 1 s→body s=(.ok u,t)→Inv 0 0 t):∀ (f:Nat) (i:Int) (s:MS) (u:Unit) (t:MS),i64 i→Inv 0 0 s→qcd body name b f i s=(.ok u,t)→Inv 0 0 t
 | 0,i,s,u,t,_,h,g=>by rw [qcd] at g;cases g;exact h
 | f+1,i,s,u,t,hi,h,g=>by
  rw [qcd] at g;split at g
  ·
   split at g
   · cases g
   ·
    rename_i m' hm;have h1:=(h.tick hm).vars (rng_vI hi) name;split at g
    · cases g
    ·
     rename_i m'' hm';exact loop_ok hb f _ _ _ _ (i64_w _) (hb _ _ _ h1 hm') g
  · cases g;exact h
mutual
theorem stI_ok (hC:rngC C):∀ (t:St) (s:MS) (u:Unit) (s':MS),goS t→Inv 8192 1 s→stI C t s=(.ok u,s')→Inv 0 0 s'
 | .mk op name mx a b body els,s,u,s',hG,h,g=>by
  have hG':=(goS_iff _).1 hG;simp only [St.op,St.a,St.b,St.body,St.els] at hG';obtain ⟨hA,hB,hbody,hels⟩:=hG';rw [stI] at g;split at g
  ·
   have h1:=h.eval hC (r:=4097) (hA (by omega));split at g
   · cases g
   ·
    rename_i v m' hm;rw [hm] at h1;cases g;exact (h1.1.vars (h1.2 _ rfl) name).mono (by omega) (by omega)
  split at g
  ·
   have h1:=h.eval hC (r:=4097) (hA (by omega));split at g
   · cases g
   ·
    rename_i v m' hm;rw [hm] at h1;have h2:=h1.1.eval hC (r:=2) (hB (by omega));split at g
    · cases g
    ·
     rename_i w m'' hm';rw [hm'] at h2;split at g
     · exact (h2.1.store (h2.2 _ rfl) g).mono (by omega) (by omega)
     · cases g
  split at g
  ·
   have h1:=h.eval hC (r:=4097) (hA (by omega));split at g
   · cases g
   ·
    rename_i v m' hm;rw [hm] at h1;split at g
    · exact (h1.1.store rng_nil g).mono (by omega) (by omega)
    · cases g
  split at g
  ·
   have h1:=h.eval hC (r:=4097) (hA (by omega));split at g
   · cases g
   ·
    rename_i v m' hm;rw [hm] at h1;split at g
    ·
     split at g
     · exact blkI_ok hC body _ _ _ hbody (h1.1.mono (by omega) (by omega)) g
     · exact blkI_ok hC els _ _ _ hels (h1.1.mono (by omega) (by omega)) g
    · cases g
  split at g
  ·
   have h1:=h.eval hC (r:=4097) (hA (by omega));split at g
   · cases g
   ·
    rename_i v m' hm;rw [hm] at h1;have h2:=h1.1.eval hC (r:=2) (hB (by omega));split at g
    · cases g
    ·
     rename_i w m'' hm';rw [hm'] at h2;split at g
     ·
      split at g
      · cases g
      · exact loop_ok (fun s u t hs hg=>blkI_ok hC body s u t hbody (hs.mono (by omega) (by omega)) hg) _ _ _ _ _ (h1.2 _ rfl).1 (h2.1.mono (by omega) (by omega)) g
     · cases g
  split at g
  ·
   have h1:=h.eval hC (r:=4097) (hA (by omega));split at g
   · cases g
   ·
    rename_i v m' hm;rw [hm] at h1;split at g
    · exact (h1.1.emit g).mono (by omega) (by omega)
    · cases g
  split at g
  · cases g
  ·
   cases g;exact h.mono (by omega) (by omega)
theorem blkI_ok (hC:rngC C):∀ (l:List St) (s:MS) (u:Unit) (s':MS),(∀ x∈l,goS x)→Inv 0 0 s→qcu C l s=(.ok u,s')→Inv 0 0 s'
 | [],s,u,s',_,h,g=>by rw [qcu] at g;cases g;exact h
 | t::l,s,u,s',hG,h,g=>by
  rw [qcu] at g;split at g
  · cases g
  ·
   rename_i m' hm;split at g
   · cases g
   ·
    rename_i m'' hm';exact blkI_ok hC l _ _ _ (fun x hx=>hG x (by simp [hx])) (stI_ok hC t _ _ _ (hG t (by simp)) (h.tick hm) hm') g
end
end
end Go.Cw

namespace Go.Cw
open Go Go.Abs
section
variable {C:Cfg}
theorem stI_eq (t:St) (m:MS):stI C t m = 
  if t.op=1∨t.op=2 then
   match evE C t.a m with
   | (.error z,m')=>(.error z,m')
   | (.ok v,m')=>(.ok (),{ m' with vars:=qbk m'.vars t.name v })
  else if t.op=3 then
   match evE C t.a m with
   | (.error z,m')=>(.error z,m')
   | (.ok k,m')=>match evE C t.b m' with
    | (.error z,m'')=>(.error z,m'')
    | (.ok v,m'')=>if k.k=2∧(v.k=1∨v.k=2) then qbi C k.s v m'' else (.error (ab 1009),m'')
  else if t.op=4 then
   match evE C t.a m with
   | (.error z,m')=>(.error z,m')
   | (.ok k,m')=>if k.k=2 then qbi C k.s V.nil m' else (.error (ab 1009),m')
  else if t.op=5 then
   match evE C t.a m with
   | (.error z,m')=>(.error z,m')
   | (.ok c,m')=>if c.k=3 then (if c.n=1 then qcu C t.body m' else qcu C t.els m') else (.error (ab 1009),m')
  else if t.op=6 then stI C t m
  else if t.op=7 then
   match evE C t.a m with
   | (.error z,m')=>(.error z,m')
   | (.ok v,m')=>if v.k=1∨v.k=2 then emitS v m' else (.error (ab 1009),m')
  else if t.op=8 then (.error (ab t.max),m)
  else (.ok (),m):=by
 by_cases h6:t.op=6
 · simp [h6]
 cases t with
 | mk op name mx a b body els =>
  simp only [St.op,St.a,St.b,St.body,St.els,St.name,St.max] at h6 ⊢;rw [stI];simp only [h6,if_false];rfl
theorem fetch_steps (k:qab) (s:MS):(qbr C k s).2.steps=s.steps:=by
 unfold qbr
 repeat' split
 all_goals rfl
theorem op_steps (op:Int) (l:List V) (s:MS):(opS C op l s).2.steps=s.steps:=by
 unfold opS;split
 ·
  rename_i a;unfold unS;have:=fetch_steps (C:=C) a.s s
  repeat' split
  all_goals first
   | rfl
   | (rename_i h;rw [h] at this;exact this)
 · rfl
 · rfl
mutual
theorem evE_steps:∀ (e:Ex) (s:MS),(evE C e s).2.steps=s.steps
 | .mk op n t args,s=>by
  have hL:=evL_steps args s;rw [evE];split
  · rfl
  split
  · rfl
  split
  · rfl
  split
  · rename_i h;rw [h] at hL;exact hL
  · rename_i h;rw [h] at hL;rw [op_steps];exact hL
theorem evL_steps:∀ (l:List Ex) (s:MS),(evL C l s).2.steps=s.steps
 | [],s=>by rw [evL]
 | e::l,s=>by
  have hE:=evE_steps e s;rw [evL];split
  · rename_i h;rw [h] at hE;exact hE
  ·
   rename_i m' h;rw [h] at hE;have hL:=evL_steps l m';split
   · rename_i h2;rw [h2] at hL;exact hL.trans hE
   · rename_i h2;rw [h2] at hL;exact hL.trans hE
end
theorem tick_steps (s:MS):(qc2 s).2.steps=s.steps+1:=rfl
theorem store_steps (k:qab) (v:V) (s:MS):(qbi C k v s).2.steps=s.steps:=by
 unfold qbi
 repeat' split
 all_goals rfl
theorem emit_steps (v:V) (s:MS):(emitS v s).2.steps=s.steps:=by
 unfold emitS;split<;>rfl
theorem loop_steps {body:MS→Except Stop Unit×MS} {name:qab} {b:Int} (hb:∀ s,s.steps≤(body s).2.steps):∀ (f:Nat) (i:Int) (s:MS),s.steps≤(qcd body name b f i s).2.steps
 | 0,i,s=>by rw [qcd];simp
 | f+1,i,s=>by
  have hT:=tick_steps s;rw [qcd];split
  ·
   split
   · rename_i h;rw [h] at hT;simp only at hT ⊢;omega
   ·
    rename_i m' h;rw [h] at hT;have hB:=hb { m' with vars:=qbk m'.vars name (vI i) };split
    · rename_i h2;rw [h2] at hB;simp only at hT hB ⊢;omega
    ·
     rename_i m'' h2;rw [h2] at hB;have:=loop_steps (name:=name) (b:=b) hb f (W64 (i+1)) m'';simp only at hT hB ⊢;omega
  · simp
mutual
theorem stI_steps:∀ (t:St) (s:MS),s.steps≤(stI C t s).2.steps
 | .mk op name mx a b body els,s=>by
  have hE:=evE_steps (C:=C) a s;rw [stI];split
  ·
   split
   · rename_i h;rw [h] at hE;simp only at hE ⊢;omega
   · rename_i h;rw [h] at hE;simp only at hE ⊢;omega
  split
  ·
   split
   · rename_i h;rw [h] at hE;simp only at hE ⊢;omega
   ·
    rename_i k m' h;rw [h] at hE;have hE2:=evE_steps (C:=C) b m';split
    · rename_i h2;rw [h2] at hE2;simp only at hE hE2 ⊢;omega
    ·
     rename_i v m'' h2;rw [h2] at hE2;have:=store_steps (C:=C) k.s v m'';split<;>simp only at hE hE2 ⊢<;>omega
  split
  ·
   split
   · rename_i h;rw [h] at hE;simp only at hE ⊢;omega
   ·
    rename_i k m' h;rw [h] at hE;have:=store_steps (C:=C) k.s V.nil m';split<;>simp only at hE ⊢<;>omega
  split
  ·
   split
   · rename_i h;rw [h] at hE;simp only at hE ⊢;omega
   ·
    rename_i k m' h;rw [h] at hE;have h1:=blkI_steps body m';have h2:=blkI_steps els m';split
    · split<;>simp only at hE ⊢<;>omega
    · simp only at hE ⊢;omega
  split
  ·
   split
   · rename_i h;rw [h] at hE;simp only at hE ⊢;omega
   ·
    rename_i u m' h;rw [h] at hE;have hE2:=evE_steps (C:=C) b m';split
    · rename_i h2;rw [h2] at hE2;simp only at hE hE2 ⊢;omega
    ·
     rename_i v m'' h2;rw [h2] at hE2;have:=loop_steps (body:=fun x=>qcu C body x) (name:=name) (b:=v.n) (fun s=>blkI_steps body s) 16386 u.n m'';split
     · split<;>simp only at hE hE2 ⊢<;>omega
     · simp only at hE hE2 ⊢;omega
  split
  ·
   split
   · rename_i h;rw [h] at hE;simp only at hE ⊢;omega
   ·
    rename_i v m' h;rw [h] at hE;have:=emit_steps v m';split<;>simp only at hE ⊢<;>omega
  split
  · simp
  · simp
theorem blkI_steps:∀ (l:List St) (s:MS),s.steps≤(qcu C l s).2.steps
 | [],s=>by rw [qcu];simp
 | t::l,s=>by
  have hT:=tick_steps s;rw [qcu];split
  · rename_i h;rw [h] at hT;simp only at hT ⊢;omega
  ·
   rename_i m' h;rw [h] at hT;have hS:=stI_steps t m';split
   · rename_i h2;rw [h2] at hS;simp only at hT hS ⊢;omega
   ·
    rename_i m'' h2;rw [h2] at hS;have:=blkI_steps l m'';simp only at hT hS ⊢;omega
end
end
end Go.Cw

namespace Go.Cw
open Go Go.Abs
def rngS:St→Prop
 | .mk _ _ _ a b body els=>rngX a∧rngX b∧(∀ x∈body.attach,rngS x.1)∧∀ x∈els.attach,rngS x.1
termination_by s=>SizeOf.sizeOf s
decreasing_by
 all_goals
  have:=List.sizeOf_lt_of_mem x.2;simp only [St.mk.sizeOf_spec];omega
theorem qdy (t:St):rngS t↔rngX t.a∧rngX t.b∧(∀ x∈t.body,rngS x)∧∀ x∈t.els,rngS x:=by
 cases t with
 | mk op name mx a b body els =>
  rw [rngS];simp [St.a,St.b,St.body,St.els]
theorem goX_of {e:Ex} (h:chkE e 1=0) (hr:rngX e):goX e:=⟨hr,by have:=chkE_nodes e 1 12 h (by omega);omega⟩
theorem goS_of:∀ (t:St) (d:Nat),okS t d→rngS t→goS t
 | .mk op name mx a b body els,d,h,hr=>by
  have h1:=(qdk _ _).1 h;have h2:=(qdy _).1 hr;refine (goS_iff _).2 ⟨fun k=>goX_of (okS_a h k) h2.1,fun k=>goX_of (okS_b h k) h2.2.1,fun x hx=>?_,fun x hx=>?_⟩
  ·
   have:=List.sizeOf_lt_of_mem (show x∈body from hx);exact goS_of x (d+1) (h1.2.1 x hx) (h2.2.2.1 x hx)
  ·
   have:=List.sizeOf_lt_of_mem (show x∈els from hx);exact goS_of x (d+1) (h1.2.2 x hx) (h2.2.2.2 x hx)
termination_by t=>SizeOf.sizeOf t
decreasing_by
 all_goals
  simp only [St.mk.sizeOf_spec];omega
end Go.Cw

namespace Go.Cw
open Go Go.Abs
structure Keeps (C:Cfg) (P:MS→MS→Prop):Prop where
 refl:∀ s,P s s
 trans:∀ {a b c},P a b→P b c→P a c
 fetch:∀ k s,P s (qbr C k s).2
 store:∀ k v s,P s (qbi C k v s).2
 emit:∀ v s,P s (emitS v s).2
 tick:∀ s,P s (qc2 s).2
 vars:∀ s n v,P s { s with vars:=qbk s.vars n v }
section
variable {C:Cfg} {P:MS→MS→Prop} (K:Keeps C P)
include K
theorem keep_op (op:Int) (l:List V) (s:MS):P s (opS C op l s).2:=by
 unfold opS;split
 ·
  rename_i a;unfold unS;have:=K.fetch a.s s
  repeat' split
  all_goals first
   | exact K.refl _
   | (rename_i h;rw [h] at this;exact this)
 · exact K.refl _
 · exact K.refl _
mutual
theorem keep_ev:∀ (e:Ex) (s:MS),P s (evE C e s).2
 | .mk op n t args,s=>by
  have hL:=keep_evL args s;rw [evE];split
  · exact K.refl _
  split
  · exact K.refl _
  split
  · exact K.refl _
  split
  · rename_i h;rw [h] at hL;exact hL
  · rename_i h;rw [h] at hL;exact K.trans hL (keep_op K _ _ _)
theorem keep_evL:∀ (l:List Ex) (s:MS),P s (evL C l s).2
 | [],s=>by rw [evL];exact K.refl _
 | e::l,s=>by
  have hE:=keep_ev e s;rw [evL];split
  · rename_i h;rw [h] at hE;exact hE
  ·
   rename_i m' h;rw [h] at hE;have hL:=keep_evL l m';split
   · rename_i h2;rw [h2] at hL;exact K.trans hE hL
   · rename_i h2;rw [h2] at hL;exact K.trans hE hL
end
theorem keep_loop {body:MS→Except Stop Unit×MS} {name:qab} {b:Int} (hb:∀ s,P s (body s).2):∀ (f:Nat) (i:Int) (s:MS),P s (qcd body name b f i s).2
 | 0,i,s=>by rw [qcd];exact K.refl _
 | f+1,i,s=>by
  have hT:=K.tick s;rw [qcd];split
  ·
   split
   · rename_i h;rw [h] at hT;exact hT
   ·
    rename_i m' h;rw [h] at hT;have hV:=K.vars m' name (vI i);have hB:=hb { m' with vars:=qbk m'.vars name (vI i) };split
    · rename_i h2;rw [h2] at hB;exact K.trans hT (K.trans hV hB)
    ·
     rename_i m'' h2;rw [h2] at hB;exact K.trans hT (K.trans hV (K.trans hB (keep_loop hb f (W64 (i+1)) m'')))
  · exact K.refl _
mutual
theorem keep_st:∀ (t:St) (s:MS),P s (stI C t s).2
 | .mk op name mx a b body els,s=>by
  have hE:=keep_ev K a s;rw [stI];split
  ·
   split
   · rename_i h;rw [h] at hE;exact hE
   · rename_i v m' h;rw [h] at hE;exact K.trans hE (K.vars _ _ _)
  split
  ·
   split
   · rename_i h;rw [h] at hE;exact hE
   ·
    rename_i k m' h;rw [h] at hE;have hE2:=keep_ev K b m';split
    · rename_i h2;rw [h2] at hE2;exact K.trans hE hE2
    ·
     rename_i v m'' h2;rw [h2] at hE2;split
     · exact K.trans hE (K.trans hE2 (K.store _ _ _))
     · exact K.trans hE hE2
  split
  ·
   split
   · rename_i h;rw [h] at hE;exact hE
   ·
    rename_i k m' h;rw [h] at hE;split
    · exact K.trans hE (K.store _ _ _)
    · exact hE
  split
  ·
   split
   · rename_i h;rw [h] at hE;exact hE
   ·
    rename_i k m' h;rw [h] at hE;split
    ·
     split
     · exact K.trans hE (keep_blk body m')
     · exact K.trans hE (keep_blk els m')
    · exact hE
  split
  ·
   split
   · rename_i h;rw [h] at hE;exact hE
   ·
    rename_i u m' h;rw [h] at hE;have hE2:=keep_ev K b m';split
    · rename_i h2;rw [h2] at hE2;exact K.trans hE hE2
    ·
     rename_i v m'' h2;rw [h2] at hE2;split
     ·
      split
      · exact K.trans hE hE2
      · exact K.trans hE (K.trans hE2 (keep_loop K (fun s=>keep_blk body s) _ _ _))
     · exact K.trans hE hE2
  split
  ·
   split
   · rename_i h;rw [h] at hE;exact hE
   ·
    rename_i v m' h;rw [h] at hE;split
    · exact K.trans hE (K.emit _ _)
    · exact hE
  split
  · exact K.refl _
  · exact K.refl _
theorem keep_blk:∀ (l:List St) (s:MS),P s (qcu C l s).2
 | [],s=>by rw [qcu];exact K.refl _
 | t::l,s=>by
  have hT:=K.tick s;rw [qcu];split
  · rename_i h;rw [h] at hT;exact hT
  ·
   rename_i m' h;rw [h] at hT;have hS:=keep_st t m';split
   · rename_i h2;rw [h2] at hS;exact K.trans hT hS
   ·
    rename_i m'' h2;rw [h2] at hS;exact K.trans hT (K.trans hS (keep_blk l m''))
end
end
def er {α:Type}:Except Stop α→Option Stop
 | .error z=>some z
 | .ok _=>none
structure Alike (C D:Cfg) (P:MS→MS→Prop) (ok:Option Stop→MS→Prop):Prop where
 K:Keeps C P
 fmt:D.fmt=C.fmt
 mono:∀ {s t x},P s t→ok x t→ok none s
 fetch:∀ k s,ok (er (qbr C k s).1) (qbr C k s).2→qbr D k s=qbr C k s
 store:∀ k v s,ok (er (qbi C k v s).1) (qbi C k v s).2→qbi D k v s=qbi C k v s
section
variable {C D:Cfg} {P:MS→MS→Prop} {ok:Option Stop→MS→Prop} (A:Alike C D P ok)
include A
theorem two_op (op:Int) (l:List V) (s:MS) (h:ok (er (opS C op l s).1) (opS C op l s).2):opS D op l s=opS C op l s:=by
 unfold opS at h ⊢;split
 ·
  rename_i a;simp only at h ⊢;unfold unS at h ⊢;rw [A.fmt];by_cases h1:op=9
  · simp only [h1,if_true]
  by_cases h2:op=18
  · simp only [h1,h2,if_true,if_false]
  by_cases h3:op=20
  · simp only [h1,h2,h3,if_true,if_false]
  by_cases h4:op=21
  · simp only [h1,h2,h3,h4,if_true,if_false]
  by_cases h5:a.k≠2
  · simp only [h1,h2,h3,h4,h5,if_true,if_false,ne_eq,not_true,not_false_iff]
  ·
   simp only [h1,h2,h3,h4,h5,if_false] at h ⊢;have hF:=A.fetch a.s s;rcases hx:qbr C a.s s with ⟨z | v,m'⟩
   ·
    rw [hx] at h hF;rw [hF h]
   ·
    rw [hx] at h hF;rw [hF (A.mono (A.K.refl _) h)]
 · rfl
 · rfl
mutual
theorem two_ev:∀ (e:Ex) (s:MS),ok (er (evE C e s).1) (evE C e s).2→evE D e s=evE C e s
 | .mk op n t args,s,h=>by
  have hL:=two_evL args s;rw [evE] at h;rw [evE,evE];by_cases h1:op=1
  · simp only [h1,if_true]
  by_cases h2:op=2
  · simp only [h1,h2,if_true,if_false]
  by_cases h3:op=3
  · simp only [h1,h2,h3,if_true,if_false]
  simp only [h1,h2,h3,if_false] at h ⊢;rcases hx:evL C args s with ⟨z | l,m'⟩
  ·
   rw [hx] at h hL;rw [hL h]
  ·
   rw [hx] at h hL;rw [hL (A.mono (keep_op A.K _ _ _) h)];exact two_op A op l m' h
theorem two_evL:∀ (l:List Ex) (s:MS),ok (er (evL C l s).1) (evL C l s).2→evL D l s=evL C l s
 | [],s,_=>by rw [evL,evL]
 | e::l,s,h=>by
  have hE:=two_ev e s;rw [evL] at h;rw [evL,evL];rcases hx:evE C e s with ⟨z | v,m'⟩
  ·
   rw [hx] at h hE;rw [hE h]
  ·
   rw [hx] at h hE;simp only at h ⊢;have hL:=two_evL l m';have hK:=keep_evL A.K l m';rcases hy:evL C l m' with ⟨z | r,m''⟩
   ·
    rw [hy] at h hL hK;rw [hE (A.mono hK h)];simp only;rw [hL h]
   ·
    rw [hy] at h hL hK;rw [hE (A.mono hK h)];simp only;rw [hL h]
end
theorem two_loop {body body':MS→Except Stop Unit×MS} {name:qab} {b:Int} (hk:∀ s,P s (body s).2) (hb:∀ s,ok (er (body s).1) (body s).2→body' s=body s):∀ (f:Nat) (i:Int) (s:MS),ok (er (qcd body name b f i s).1) (qcd body name b f i s).2→qcd body' name b f i s=qcd body name b f i s
 | 0,i,s,_=>by rw [qcd,qcd]
 | f+1,i,s,h=>by
  rw [qcd] at h;rw [qcd,qcd];by_cases hi:i<b
  ·
   simp only [hi,if_true] at h ⊢;rcases hT:qc2 s with ⟨z | u,m'⟩
   · rfl
   ·
    rw [hT] at h;simp only at h ⊢;have hB:=hb { m' with vars:=qbk m'.vars name (vI i) };rcases hx:body { m' with vars:=qbk m'.vars name (vI i) } with ⟨z | u,m''⟩
    ·
     rw [hx] at h hB;rw [hB h]
    ·
     rw [hx] at h hB;simp only at h ⊢;rw [hB (A.mono (keep_loop A.K hk _ _ _) h)];exact two_loop hk hb f _ _ h
  · simp only [hi,if_false]
mutual
theorem two_st:∀ (t:St) (s:MS),ok (er (stI C t s).1) (stI C t s).2→stI D t s=stI C t s
 | .mk op name mx a b body els,s,h=>by
  have hE:=two_ev A a s;rw [stI] at h;rw [stI,stI];by_cases h1:op=1∨op=2
  ·
   simp only [h1,if_true] at h ⊢;rcases hx:evE C a s with ⟨z | v,m'⟩
   · rw [hx] at h hE;rw [hE h]
   · rw [hx] at h hE;rw [hE (A.mono (A.K.vars _ _ _) h)]
  simp only [h1,if_false] at h ⊢;by_cases h3:op=3
  ·
   simp only [h3,if_true] at h ⊢;rcases hx:evE C a s with ⟨z | v,m'⟩
   · rw [hx] at h hE;rw [hE h]
   ·
    rw [hx] at h hE;simp only at h ⊢;have hE2:=two_ev A b m';have hK:=keep_ev A.K b m';rcases hy:evE C b m' with ⟨z | w,m''⟩
    ·
     rw [hy] at h hE2 hK;rw [hE (A.mono hK h)];simp only;rw [hE2 h]
    ·
     rw [hy] at h hE2 hK;simp only at h ⊢;split at h
     ·
      rename_i hc;have h0:=A.mono (A.K.store v.s w m'') h;rw [hE (A.mono hK h0)];simp only;rw [hE2 h0];simp only [hc,and_self,if_true];exact A.store v.s w m'' h
     ·
      rename_i hc;have h0:=A.mono (A.K.refl _) h;rw [hE (A.mono hK h0)];simp only;rw [hE2 h0];simp only [hc,if_false]
  simp only [h3,if_false] at h ⊢;by_cases h4:op=4
  ·
   simp only [h4,if_true] at h ⊢;rcases hx:evE C a s with ⟨z | v,m'⟩
   · rw [hx] at h hE;rw [hE h]
   ·
    rw [hx] at h hE;simp only at h ⊢;split at h
    ·
     rename_i hc;rw [hE (A.mono (A.K.store v.s V.nil m') h)];simp only [hc,if_true];exact A.store v.s V.nil m' h
    ·
     rename_i hc;rw [hE (A.mono (A.K.refl _) h)];simp only [hc,if_false]
  simp only [h4,if_false] at h ⊢;by_cases h5:op=5
  ·
   simp only [h5,if_true] at h ⊢;rcases hx:evE C a s with ⟨z | v,m'⟩
   · rw [hx] at h hE;rw [hE h]
   ·
    rw [hx] at h hE;simp only at h ⊢;split at h
    ·
     rename_i hc;split at h
     ·
      rename_i hn;rw [hE (A.mono (keep_blk A.K body m') h)];simp only [hc,hn,if_true];exact two_blk body m' h
     ·
      rename_i hn;rw [hE (A.mono (keep_blk A.K els m') h)];simp only [hc,hn,if_true,if_false];exact two_blk els m' h
    ·
     rename_i hc;rw [hE (A.mono (A.K.refl _) h)];simp only [hc,if_false]
  simp only [h5,if_false] at h ⊢;by_cases h6:op=6
  ·
   simp only [h6,if_true] at h ⊢;rcases hx:evE C a s with ⟨z | v,m'⟩
   · rw [hx] at h hE;rw [hE h]
   ·
    rw [hx] at h hE;simp only at h ⊢;have hE2:=two_ev A b m';have hK:=keep_ev A.K b m';rcases hy:evE C b m' with ⟨z | w,m''⟩
    ·
     rw [hy] at h hE2 hK;rw [hE (A.mono hK h)];simp only;rw [hE2 h]
    ·
     rw [hy] at h hE2 hK;simp only at h ⊢;split at h
     ·
      rename_i hc;split at h
      ·
       rename_i ht;have h0:=A.mono (A.K.refl _) h;rw [hE (A.mono hK h0)];simp only;rw [hE2 h0];simp only [hc,ht,and_self,if_true]
      ·
       rename_i ht;have h0:=A.mono (keep_loop A.K (fun s=>keep_blk A.K body s) _ _ _) h;rw [hE (A.mono hK h0)];simp only;rw [hE2 h0];simp only [hc,ht,and_self,if_true,if_false];exact two_loop A (fun s=>keep_blk A.K body s) (fun s=>two_blk body s) _ _ _ h
     ·
      rename_i hc;have h0:=A.mono (A.K.refl _) h;rw [hE (A.mono hK h0)];simp only;rw [hE2 h0];simp only [hc,if_false]
  simp only [h6,if_false] at h ⊢;by_cases h7:op=7
  ·
   simp only [h7,if_true] at h ⊢;rcases hx:evE C a s with ⟨z | v,m'⟩
   · rw [hx] at h hE;rw [hE h]
   ·
    rw [hx] at h hE;simp only at h ⊢;split at h
    ·
     rename_i hc;rw [hE (A.mono (A.K.emit v m') h)]
    ·
     rename_i hc;rw [hE (A.mono (A.K.refl _) h)]
  simp only [h7,if_false]
theorem two_blk:∀ (l:List St) (s:MS),ok (er (qcu C l s).1) (qcu C l s).2→qcu D l s=qcu C l s
 | [],s,_=>by rw [qcu,qcu]
 | t::l,s,h=>by
  rw [qcu] at h;rw [qcu,qcu];rcases hT:qc2 s with ⟨z | u,m'⟩
  · rfl
  ·
   rw [hT] at h;simp only at h ⊢;have hS:=two_st t m';rcases hx:stI C t m' with ⟨z | u,m''⟩
   ·
    rw [hx] at h hS;rw [hS h]
   ·
    rw [hx] at h hS;simp only at h ⊢;rw [hS (A.mono (keep_blk A.K l m'') h)];exact two_blk l m'' h
end
end
end Go.Cw
