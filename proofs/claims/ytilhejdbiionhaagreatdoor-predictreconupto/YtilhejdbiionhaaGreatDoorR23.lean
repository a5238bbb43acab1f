/- Part 23 of a proof: CwPa, CwL, CwM, CwN, CwO, CwP -/
import Derived.Test.YtilhejdbiionhaaGreatDoorR22
set_option linter.all false

namespace Go.Cw
open Go Go.Abs
structure AX where
 known:Bool
 v:V
def AX.c(a:AX):List AV:=[Bo a.known,I a.v.k,I a.v.n,S a.v.s]
def qc7(a:AX):AV:=.agg a.c
abbrev keysM{α:Type}(l:List (qac×α)):List qac:=l.map (·.1)
theorem kSet_new{α:Type}{s:qac}{v:α}:∀{l:List (qac×α)},s∉keysM l→qbr l s v=l++[(s,v)]
 | [],_=>rfl
 |p::l,h=>by
  simp only[List.map_cons,List.mem_cons,not_or]at h;rw[qbr,if_neg fun e=>h.1 e.symm,kSet_new h.2];rfl
def pickL{α:Type}(l:List α)(js:List Nat):List α:=js.filterMap fun j=>l[j]?
theorem pickL_snoc{α:Type}{l:List α}{js:List Nat}{j:Nat}(h:j<l.length):pickL l (js++[j])=pickL l js++[l[j]]:=by
 simp[pickL,List.filterMap_append,h]
theorem pickL_perm{α:Type}{l:List α}{js:List Nat}(h:js.Perm (List.range l.length)):(pickL l js).Perm l:=by
 have h1:(pickL l js).Perm (pickL l (List.range l.length)):=h.filterMap _;have h2:pickL l (List.range l.length)=l:=by
  have:∀n,n≤l.length→pickL l (List.range n)=l.take n:=fun n=>by
   induction n with
   |zero=>intro _;simp[pickL]
   |succ n ih =>
    intro hn;rw[List.range_succ,pickL_snoc (by omega),ih (by omega),List.take_succ_eq_append_getElem (by omega)]
  have:=this l.length (Nat.le_refl _)
  rwa [List.take_length]at this
 rwa [h2]at h1
theorem pickL_new{α:Type}{l:List (qac×α)}(hn:(keysM l).Nodup){js:List Nat}{j:Nat}(hj:j<l.length)(hlt:∀x,x∈js→x<l.length)(hno:j∉js):l[j].1∉keysM (pickL l js):=fun hm=>by
 obtain⟨p,hp,e⟩:=List.mem_map.1 hm;obtain⟨x,hx,hxp⟩:=List.mem_filterMap.1 hp;obtain⟨hxl,rfl⟩:=List.getElem?_eq_some_iff.1 hxp;have:(keysM l)[x]'(by simpa using hxl)=(keysM l)[j]'(by simpa using hj):=by simpa using e
 exact hno ((List.getElem_inj hn).1 this▸hx)
theorem kAV_under(n:Nat)(l:List (qac×AX))(a b:AV)(h:(a,b)∈kAV qc7 l):AV.under n a=true∧AV.under n b=true:=by
 unfold kAV qb5 at h;simp only[List.map_map,List.mem_map,Function.comp]at h;obtain⟨p,_,e⟩:=h;cases e;simp[qc7,AX.c,go_sem]
end Go.Cw

namespace Go.Cw
open Go Go.Abs
@[simp] theorem kvSet_vI(l:List (qac×V))(s:qac)(i:Int):qb5 (kvSet (l.map fun p=>(p.1,vAV p.2)) s (.agg [I 1,I i,S em]))=kAV vAV (qbr l s (vI i)):=kvSet_map vAV l s (vI i)
def goX(e:Ex):Prop:=rngX e∧nodes e≤4095
def goS:St→Prop
 | .mk op _ _ a b body els=>(op≠8→goX a)∧(op=3∨op=6→goX b)∧(∀x∈body.attach,goS x.1)∧∀x∈els.attach,goS x.1
termination_by s=>SizeOf.sizeOf s
decreasing_by
 all_goals
  have:=List.sizeOf_lt_of_mem x.2;simp only[St.mk.sizeOf_spec];omega
theorem goS_iff(t:St):goS t↔(t.op≠8→goX t.a)∧(t.op=3∨t.op=6→goX t.b)∧(∀x∈t.body,goS x)∧∀x∈t.els,goS x:=by
 cases t with
 |mk op name mx a b body els =>
  rw[goS];simp[St.op,St.a,St.b,St.body,St.els]
structure Inv(r p:Nat)(s:MS):Prop where
 rng:rngM s
 ar:ascS s.reads
 ap:ascS s.puts
 st:s.steps≤16384
 rd:((s.reads.length+r:Nat):Int)≤8192 * s.steps
 pt:((s.puts.length+p:Nat):Int)≤s.steps
 ot:s.out.length≤16
theorem Inv.mono{r p r' p':Nat}{s:MS}(h:Inv r p s)(h1:r'≤r)(h2:p'≤p):Inv r' p' s:=⟨h.rng,h.ar,h.ap,h.st,by have:=h.rd;omega,by have:=h.pt;omega,h.ot⟩
theorem Inv.ev{r p n:Nat}{s t:MS}(h:Inv (r+n) p s)(g:EvOk s n t):Inv r p t:=by
 have h1:=h.rd;have h2:=g.len;refine⟨g.rng h.rng,g.asc,by rw[g.puts];exact h.ap,by rw[g.steps];exact h.st,by rw[g.steps];omega,by rw[g.steps,g.puts];exact h.pt,by rw[g.out];exact h.ot⟩
theorem Inv.tick{s t:MS}{u:Unit}(h:Inv 0 0 s)(g:tickS s=(.ok u,t)):Inv 8192 1 t:=by
 unfold tickS at g;split at g
 ·cases g
 ·cases g;exact⟨h.rng,h.ar,h.ap,by simp only;omega,by have:=h.rd;simp only;omega,by have:=h.pt;simp only;omega,h.ot⟩
theorem rngM_vars{s:MS}(h:rngM s){v:V}(hv:qcx v)(k:qac):rngM { s with vars:=qbr s.vars k v }:=⟨fun p hp=>by
 rcases kSet_mem hp with rfl|hp
 ·exact hv
 ·exact h.1 p hp,h.2⟩
theorem Inv.vars{r p:Nat}{s:MS}(h:Inv r p s){v:V}(hv:qcx v)(k:qac):Inv r p { s with vars:=qbr s.vars k v }:=⟨rngM_vars h.rng hv k,h.ar,h.ap,h.st,h.rd,h.pt,h.ot⟩
section
variable {C:Cfg}
theorem Inv.store{r:Nat}{s t:MS}{u:Unit}{k:qac}{v:V}(h:Inv r 1 s)(hv:qcx v)(g:qcq C k v s=(.ok u,t)):Inv r 0 t:=by
 unfold qcq at g;split at g
 ·cases g
 split at g
 ·cases g
 ·cases g;refine⟨⟨h.rng.1,fun p hp=>?_⟩,h.ar,withS_asc h.ap k,h.st,h.rd,?_,h.ot⟩
  ·rcases kSet_mem hp with rfl|hp
   ·exact hv
   ·exact h.rng.2 p hp
  ·have:=withS_len s.puts k;have:=h.pt;simp only;omega
theorem Inv.emit{r p:Nat}{s t:MS}{u:Unit}{v:V}(h:Inv r p s)(g:emitS v s=(.ok u,t)):Inv r p t:=by
 unfold emitS at g;split at g
 ·cases g
 ·rename_i hn;cases g;exact⟨h.rng,h.ar,h.ap,h.st,h.rd,h.pt,by have:=h.ot;simp;omega⟩
theorem Inv.eval(hC:rngC C){r p:Nat}{s:MS}{e:Ex}(h:Inv (r+4095) p s)(he:goX e):Inv r p (evE C e s).2∧∀v,(evE C e s).1=.ok v→qcx v:=by
 have h1:=evE_ok hC e s he.1 h.rng h.ar;exact⟨h.ev (h1.1.mono he.2),h1.2⟩
theorem loop_ok{body:MS→Except Stop Unit×MS}{name:qac}{b:Int}(hb:∀s u t,Inv 8192 1 s→body s=(.ok u,t)→Inv 0 0 t):∀(f:Nat) (i:Int) (s:MS) (u:Unit) (t:MS),i64 i→Inv 0 0 s→loopS body name b f i s=(.ok u,t)→Inv 0 0 t
 | 0,i,s,u,t,_,h,g=>by rw[loopS]at g;cases g;exact h
 |f+1,i,s,u,t,hi,h,g=>by
  rw[loopS]at g;split at g
  ·split at g
   ·cases g
   ·rename_i m' hm;have h1:=(h.tick hm).vars (rng_vI hi) name;split at g
    ·cases g
    ·rename_i m'' hm';exact loop_ok hb f _ _ _ _ (i64_w _) (hb _ _ _ h1 hm') g
  ·cases g;exact h
mutual
theorem stI_ok(hC:rngC C):∀(t:St) (s:MS) (u:Unit) (s':MS),goS t→Inv 8192 1 s→stI C t s=(.ok u,s')→Inv 0 0 s'
 | .mk op name mx a b body els,s,u,s',hG,h,g=>by
  have hG':=(goS_iff _).1 hG;simp only[St.op,St.a,St.b,St.body,St.els]at hG';obtain⟨hA,hB,hbody,hels⟩:=hG';rw[stI]at g;split at g
  ·have h1:=h.eval hC (r:=4097) (hA (by omega));split at g
   ·cases g
   ·rename_i v m' hm;rw[hm]at h1;cases g;exact(h1.1.vars (h1.2 _ rfl) name).mono (by omega) (by omega)
  split at g
  ·have h1:=h.eval hC (r:=4097) (hA (by omega));split at g
   ·cases g
   ·rename_i v m' hm;rw[hm]at h1;have h2:=h1.1.eval hC (r:=2) (hB (by omega));split at g
    ·cases g
    ·rename_i w m'' hm';rw[hm']at h2;split at g
     ·exact(h2.1.store (h2.2 _ rfl) g).mono (by omega) (by omega)
     ·cases g
  split at g
  ·have h1:=h.eval hC (r:=4097) (hA (by omega));split at g
   ·cases g
   ·rename_i v m' hm;rw[hm]at h1;split at g
    ·exact(h1.1.store rng_nil g).mono (by omega) (by omega)
    ·cases g
  split at g
  ·have h1:=h.eval hC (r:=4097) (hA (by omega));split at g
   ·cases g
   ·rename_i v m' hm;rw[hm]at h1;split at g
    ·split at g
     ·exact blkI_ok hC body _ _ _ hbody (h1.1.mono (by omega) (by omega)) g
     ·exact blkI_ok hC els _ _ _ hels (h1.1.mono (by omega) (by omega)) g
    ·cases g
  split at g
  ·have h1:=h.eval hC (r:=4097) (hA (by omega));split at g
   ·cases g
   ·rename_i v m' hm;rw[hm]at h1;have h2:=h1.1.eval hC (r:=2) (hB (by omega));split at g
    ·cases g
    ·rename_i w m'' hm';rw[hm']at h2;split at g
     ·split at g
      ·cases g
      ·exact loop_ok (fun s u t hs hg=>blkI_ok hC body s u t hbody (hs.mono (by omega) (by omega)) hg) _ _ _ _ _ (h1.2 _ rfl).1 (h2.1.mono (by omega) (by omega)) g
     ·cases g
  split at g
  ·have h1:=h.eval hC (r:=4097) (hA (by omega));split at g
   ·cases g
   ·rename_i v m' hm;rw[hm]at h1;split at g
    ·exact(h1.1.emit g).mono (by omega) (by omega)
    ·cases g
  split at g
  ·cases g
  ·cases g;exact h.mono (by omega) (by omega)
theorem blkI_ok(hC:rngC C):∀(l:List St) (s:MS) (u:Unit) (s':MS),(∀x∈l,goS x)→Inv 0 0 s→blkI C l s=(.ok u,s')→Inv 0 0 s'
 | [],s,u,s',_,h,g=>by rw[blkI]at g;cases g;exact h
 |t::l,s,u,s',hG,h,g=>by
  rw[blkI]at g;split at g
  ·cases g
  ·rename_i m' hm;split at g
   ·cases g
   ·rename_i m'' hm';exact blkI_ok hC l _ _ _ (fun x hx=>hG x (by simp[hx])) (stI_ok hC t _ _ _ (hG t (by simp)) (h.tick hm) hm') g
end
end
end Go.Cw

namespace Go.Cw
open Go Go.Abs
section
variable {C:Cfg}
theorem stI_eq(t:St)(m:MS):stI C t m = 
  if t.op=1∨t.op=2 then
   match evE C t.a m with
   |(.error z,m')=>(.error z,m')
   |(.ok v,m')=>(.ok (),{ m' with vars:=qbr m'.vars t.name v })
  else if t.op=3 then
   match evE C t.a m with
   |(.error z,m')=>(.error z,m')
   |(.ok k,m')=>match evE C t.b m' with
    |(.error z,m'')=>(.error z,m'')
    |(.ok v,m'')=>if k.k=2∧(v.k=1∨v.k=2)then qcq C k.s v m'' else(.error (ab 1009),m'')
  else if t.op=4 then
   match evE C t.a m with
   |(.error z,m')=>(.error z,m')
   |(.ok k,m')=>if k.k=2 then qcq C k.s V.nil m' else(.error (ab 1009),m')
  else if t.op=5 then
   match evE C t.a m with
   |(.error z,m')=>(.error z,m')
   |(.ok c,m')=>if c.k=3 then(if c.n=1 then blkI C t.body m' else blkI C t.els m')else(.error (ab 1009),m')
  else if t.op=6 then stI C t m
  else if t.op=7 then
   match evE C t.a m with
   |(.error z,m')=>(.error z,m')
   |(.ok v,m')=>if v.k=1∨v.k=2 then emitS v m' else(.error (ab 1009),m')
  else if t.op=8 then(.error (ab t.max),m)
  else(.ok (),m):=by
 by_cases h6:t.op=6
 ·simp[h6]
 cases t with
 |mk op name mx a b body els =>
  simp only[St.op,St.a,St.b,St.body,St.els,St.name,St.max]at h6⊢;rw[stI];simp only[h6,if_false];rfl
theorem fetch_steps(k:qac)(s:MS):(qc0 C k s).2.steps=s.steps:=by
 unfold qc0
 repeat' split
 all_goals rfl
theorem op_steps(op:Int)(l:List V)(s:MS):(opS C op l s).2.steps=s.steps:=by
 unfold opS;split
 ·rename_i a;unfold unS;have:=fetch_steps (C:=C) a.s s
  repeat' split
  all_goals first
   |rfl
   |(rename_i h;rw[h]at this;exact this)
 ·rfl
 ·rfl
mutual
theorem evE_steps:∀(e:Ex) (s:MS),(evE C e s).2.steps=s.steps
 | .mk op n t args,s=>by
  have hL:=evL_steps args s;rw[evE];split
  ·rfl
  split
  ·rfl
  split
  ·rfl
  split
  ·rename_i h;rw[h]at hL;exact hL
  ·rename_i h;rw[h]at hL;rw[op_steps];exact hL
theorem evL_steps:∀(l:List Ex) (s:MS),(evL C l s).2.steps=s.steps
 | [],s=>by rw[evL]
 |e::l,s=>by
  have hE:=evE_steps e s;rw[evL];split
  ·rename_i h;rw[h]at hE;exact hE
  ·rename_i m' h;rw[h]at hE;have hL:=evL_steps l m';split
   ·rename_i h2;rw[h2]at hL;exact hL.trans hE
   ·rename_i h2;rw[h2]at hL;exact hL.trans hE
end
theorem tick_steps(s:MS):(tickS s).2.steps=s.steps+1:=rfl
theorem store_steps(k:qac)(v:V)(s:MS):(qcq C k v s).2.steps=s.steps:=by
 unfold qcq
 repeat' split
 all_goals rfl
theorem emit_steps(v:V)(s:MS):(emitS v s).2.steps=s.steps:=by
 unfold emitS;split<;>rfl
theorem loop_steps{body:MS→Except Stop Unit×MS}{name:qac}{b:Int}(hb:∀s,s.steps≤(body s).2.steps):∀(f:Nat) (i:Int) (s:MS),s.steps≤(loopS body name b f i s).2.steps
 | 0,i,s=>by rw[loopS];simp
 |f+1,i,s=>by
  have hT:=tick_steps s;rw[loopS];split
  ·split
   ·rename_i h;rw[h]at hT;simp only at hT⊢;omega
   ·rename_i m' h;rw[h]at hT;have hB:=hb { m' with vars:=qbr m'.vars name (vI i) };split
    ·rename_i h2;rw[h2]at hB;simp only at hT hB⊢;omega
    ·rename_i m'' h2;rw[h2]at hB;have:=loop_steps (name:=name) (b:=b) hb f (W64 (i+1)) m'';simp only at hT hB⊢;omega
  ·simp
mutual
theorem stI_steps:∀(t:St) (s:MS),s.steps≤(stI C t s).2.steps
 | .mk op name mx a b body els,s=>by
  have hE:=evE_steps (C:=C) a s;rw[stI];split
  ·split
   ·rename_i h;rw[h]at hE;simp only at hE⊢;omega
   ·rename_i h;rw[h]at hE;simp only at hE⊢;omega
  split
  ·split
   ·rename_i h;rw[h]at hE;simp only at hE⊢;omega
   ·rename_i k m' h;rw[h]at hE;have hE2:=evE_steps (C:=C) b m';split
    ·rename_i h2;rw[h2]at hE2;simp only at hE hE2⊢;omega
    ·rename_i v m'' h2;rw[h2]at hE2;have:=store_steps (C:=C) k.s v m'';split<;>simp only at hE hE2⊢<;>omega
  split
  ·split
   ·rename_i h;rw[h]at hE;simp only at hE⊢;omega
   ·rename_i k m' h;rw[h]at hE;have:=store_steps (C:=C) k.s V.nil m';split<;>simp only at hE⊢<;>omega
  split
  ·split
   ·rename_i h;rw[h]at hE;simp only at hE⊢;omega
   ·rename_i k m' h;rw[h]at hE;have h1:=blkI_steps body m';have h2:=blkI_steps els m';split
    ·split<;>simp only at hE⊢<;>omega
    ·simp only at hE⊢;omega
  split
  ·split
   ·rename_i h;rw[h]at hE;simp only at hE⊢;omega
   ·rename_i u m' h;rw[h]at hE;have hE2:=evE_steps (C:=C) b m';split
    ·rename_i h2;rw[h2]at hE2;simp only at hE hE2⊢;omega
    ·rename_i v m'' h2;rw[h2]at hE2;have:=loop_steps (body:=fun x=>blkI C body x) (name:=name) (b:=v.n) (fun s=>blkI_steps body s) 16386 u.n m'';split
     ·split<;>simp only at hE hE2⊢<;>omega
     ·simp only at hE hE2⊢;omega
  split
  ·split
   ·rename_i h;rw[h]at hE;simp only at hE⊢;omega
   ·rename_i v m' h;rw[h]at hE;have:=emit_steps v m';split<;>simp only at hE⊢<;>omega
  split
  ·simp
  ·simp
theorem blkI_steps:∀(l:List St) (s:MS),s.steps≤(blkI C l s).2.steps
 | [],s=>by rw[blkI];simp
 |t::l,s=>by
  have hT:=tick_steps s;rw[blkI];split
  ·rename_i h;rw[h]at hT;simp only at hT⊢;omega
  ·rename_i m' h;rw[h]at hT;have hS:=stI_steps t m';split
   ·rename_i h2;rw[h2]at hS;simp only at hT hS⊢;omega
   ·rename_i m'' h2;rw[h2]at hS;have:=blkI_steps l m'';simp only at hT hS⊢;omega
end
end
end Go.Cw

namespace Go.Cw
open Go Go.Abs
def rngS:St→Prop
 | .mk _ _ _ a b body els=>rngX a∧rngX b∧(∀x∈body.attach,rngS x.1)∧∀x∈els.attach,rngS x.1
termination_by s=>SizeOf.sizeOf s
decreasing_by
 all_goals
  have:=List.sizeOf_lt_of_mem x.2;simp only[St.mk.sizeOf_spec];omega
theorem qec(t:St):rngS t↔rngX t.a∧rngX t.b∧(∀x∈t.body,rngS x)∧∀x∈t.els,rngS x:=by
 cases t with
 |mk op name mx a b body els =>
  rw[rngS];simp[St.a,St.b,St.body,St.els]
theorem goX_of{e:Ex}(h:chkE e 1=0)(hr:rngX e):goX e:=⟨hr,by have:=chkE_nodes e 1 12 h (by omega);omega⟩
theorem goS_of:∀(t:St) (d:Nat),okS t d→rngS t→goS t
 | .mk op name mx a b body els,d,h,hr=>by
  have h1:=(qco _ _).1 h;have h2:=(qec _).1 hr;refine(goS_iff _).2 ⟨fun k=>goX_of (okS_a h k) h2.1,fun k=>goX_of (okS_b h k) h2.2.1,fun x hx=>?_,fun x hx=>?_⟩
  ·have:=List.sizeOf_lt_of_mem (show x∈body from hx);exact goS_of x (d+1) (h1.2.1 x hx) (h2.2.2.1 x hx)
  ·have:=List.sizeOf_lt_of_mem (show x∈els from hx);exact goS_of x (d+1) (h1.2.2 x hx) (h2.2.2.2 x hx)
termination_by t=>SizeOf.sizeOf t
decreasing_by
 all_goals
  simp only[St.mk.sizeOf_spec];omega
end Go.Cw

namespace Go.Cw
open Go Go.Abs
structure Keeps(C:Cfg)(P:MS→MS→Prop):Prop where
 refl:∀s,P s s
 trans:∀{a b c},P a b→P b c→P a c
 fetch:∀k s,P s (qc0 C k s).2
 store:∀k v s,P s (qcq C k v s).2
 emit:∀v s,P s (emitS v s).2
 tick:∀s,P s (tickS s).2
 vars:∀s n v,P s { s with vars:=qbr s.vars n v }
section
variable {C:Cfg} {P:MS→MS→Prop} (K:Keeps C P)
include K
theorem keep_op(op:Int)(l:List V)(s:MS):P s (opS C op l s).2:=by
 unfold opS;split
 ·rename_i a;unfold unS;have:=K.fetch a.s s
  repeat' split
  all_goals first
   |exact K.refl _
   |(rename_i h;rw[h]at this;exact this)
 ·exact K.refl _
 ·exact K.refl _
mutual
theorem keep_ev:∀(e:Ex) (s:MS),P s (evE C e s).2
 | .mk op n t args,s=>by
  have hL:=keep_evL args s;rw[evE];split
  ·exact K.refl _
  split
  ·exact K.refl _
  split
  ·exact K.refl _
  split
  ·rename_i h;rw[h]at hL;exact hL
  ·rename_i h;rw[h]at hL;exact K.trans hL (keep_op K _ _ _)
theorem keep_evL:∀(l:List Ex) (s:MS),P s (evL C l s).2
 | [],s=>by rw[evL];exact K.refl _
 |e::l,s=>by
  have hE:=keep_ev e s;rw[evL];split
  ·rename_i h;rw[h]at hE;exact hE
  ·rename_i m' h;rw[h]at hE;have hL:=keep_evL l m';split
   ·rename_i h2;rw[h2]at hL;exact K.trans hE hL
   ·rename_i h2;rw[h2]at hL;exact K.trans hE hL
end
theorem keep_loop{body:MS→Except Stop Unit×MS}{name:qac}{b:Int}(hb:∀s,P s (body s).2):∀(f:Nat) (i:Int) (s:MS),P s (loopS body name b f i s).2
 | 0,i,s=>by rw[loopS];exact K.refl _
 |f+1,i,s=>by
  have hT:=K.tick s;rw[loopS];split
  ·split
   ·rename_i h;rw[h]at hT;exact hT
   ·rename_i m' h;rw[h]at hT;have hV:=K.vars m' name (vI i);have hB:=hb { m' with vars:=qbr m'.vars name (vI i) };split
    ·rename_i h2;rw[h2]at hB;exact K.trans hT (K.trans hV hB)
    ·rename_i m'' h2;rw[h2]at hB;exact K.trans hT (K.trans hV (K.trans hB (keep_loop hb f (W64 (i+1)) m'')))
  ·exact K.refl _
mutual
theorem keep_st:∀(t:St) (s:MS),P s (stI C t s).2
 | .mk op name mx a b body els,s=>by
  have hE:=keep_ev K a s;rw[stI];split
  ·split
   ·rename_i h;rw[h]at hE;exact hE
   ·rename_i v m' h;rw[h]at hE;exact K.trans hE (K.vars _ _ _)
  split
  ·split
   ·rename_i h;rw[h]at hE;exact hE
   ·rename_i k m' h;rw[h]at hE;have hE2:=keep_ev K b m';split
    ·rename_i h2;rw[h2]at hE2;exact K.trans hE hE2
    ·rename_i v m'' h2;rw[h2]at hE2;split
     ·exact K.trans hE (K.trans hE2 (K.store _ _ _))
     ·exact K.trans hE hE2
  split
  ·split
   ·rename_i h;rw[h]at hE;exact hE
   ·rename_i k m' h;rw[h]at hE;split
    ·exact K.trans hE (K.store _ _ _)
    ·exact hE
  split
  ·split
   ·rename_i h;rw[h]at hE;exact hE
   ·rename_i k m' h;rw[h]at hE;split
    ·split
     ·exact K.trans hE (keep_blk body m')
     ·exact K.trans hE (keep_blk els m')
    ·exact hE
  split
  ·split
   ·rename_i h;rw[h]at hE;exact hE
   ·rename_i u m' h;rw[h]at hE;have hE2:=keep_ev K b m';split
    ·rename_i h2;rw[h2]at hE2;exact K.trans hE hE2
    ·rename_i v m'' h2;rw[h2]at hE2;split
     ·split
      ·exact K.trans hE hE2
      ·exact K.trans hE (K.trans hE2 (keep_loop K (fun s=>keep_blk body s) _ _ _))
     ·exact K.trans hE hE2
  split
  ·split
   ·rename_i h;rw[h]at hE;exact hE
   ·rename_i v m' h;rw[h]at hE;split
    ·exact K.trans hE (K.emit _ _)
    ·exact hE
  split
  ·exact K.refl _
  ·exact K.refl _
theorem keep_blk:∀(l:List St) (s:MS),P s (blkI C l s).2
 | [],s=>by rw[blkI];exact K.refl _
 |t::l,s=>by
  have hT:=K.tick s;rw[blkI];split
  ·rename_i h;rw[h]at hT;exact hT
  ·rename_i m' h;rw[h]at hT;have hS:=keep_st t m';split
   ·rename_i h2;rw[h2]at hS;exact K.trans hT hS
   ·rename_i m'' h2;rw[h2]at hS;exact K.trans hT (K.trans hS (keep_blk l m''))
end
end
def er{α:Type}:Except Stop α→Option Stop
 | .error z=>some z
 | .ok _=>none
structure Alike(C D:Cfg)(P:MS→MS→Prop)(ok:Option Stop→MS→Prop):Prop where
 K:Keeps C P
 fmt:D.fmt=C.fmt
 mono:∀{s t x},P s t→ok x t→ok none s
 fetch:∀k s,ok (er (qc0 C k s).1) (qc0 C k s).2→qc0 D k s=qc0 C k s
 store:∀k v s,ok (er (qcq C k v s).1) (qcq C k v s).2→qcq D k v s=qcq C k v s
section
variable {C D:Cfg} {P:MS→MS→Prop} {ok:Option Stop→MS→Prop} (A:Alike C D P ok)
include A
end
end Go.Cw

namespace Go.Cw
open Go Go.Abs
theorem withS_mem{l:List qac}{k x:qac}:x∈withS l k↔x=k∨x∈l:=by
 unfold withS;split
 ·rename_i h;have hk:k∈l:=List.mem_of_getElem? h;constructor
  ·exact .inr
  ·rintro(rfl|h)
   ·exact hk
   ·exact h
 ·have e:=List.take_append_drop (posS k l) l;rw[List.mem_append,List.mem_cons];constructor
  ·rintro(h|h|h)
   ·exact .inr (List.mem_of_mem_take h)
   ·exact .inl h
   ·exact .inr (List.mem_of_mem_drop h)
  ·rintro(h|h)
   ·exact .inr (.inl h)
   ·rw[←e,List.mem_append]at h;rcases h with h|h
    ·exact .inl h
    ·exact .inr (.inr h)
def Grow(s t:MS):Prop:=(∀k∈s.reads,k∈t.reads)∧(∀k∈s.puts,k∈t.puts)∧s.steps≤t.steps
theorem Grow.refl(s:MS):Grow s s:=⟨fun _ h=>h,fun _ h=>h,Nat.le_refl _⟩
structure Fit(C:Cfg)(s t:MS):Prop where
 rd:∀k∈t.reads,k∈s.reads∨(keyOk k=true∧(C.all=true∨qd1 C.rd k=true))
 pt:∀k∈t.puts,k∈s.puts∨(keyOk k=true∧(C.all=true∨qd1 C.wr k=true))
 ar:ascS s.reads→ascS t.reads
 ap:ascS s.puts→ascS t.puts
theorem Fit.refl(C:Cfg)(s:MS):Fit C s s:=⟨fun _ h=>.inl h,fun _ h=>.inl h,id,id⟩
theorem fit_keeps(C:Cfg):Keeps C (Fit C) where
 refl:=Fit.refl C
 trans:=fun h g=>⟨fun k hk=>(g.rd k hk).elim (h.rd k) .inr,fun k hk=>(g.pt k hk).elim (h.pt k) .inr,fun a=>g.ar (h.ar a),fun a=>g.ap (h.ap a)⟩
 fetch:=fun k s=>by
  unfold qc0;split
  ·exact Fit.refl C _
  split
  ·exact Fit.refl C _
  split
  ·exact Fit.refl C _
  ·rename_i h1 _ _ h3;refine⟨fun x hx=>?_,fun _ h=>.inl h,fun a=>withS_asc a k,id⟩;rcases withS_mem.1 hx with rfl|hx
   ·refine .inr ⟨by simpa using h1,?_⟩;rcases ha:C.all with _|_
    ·refine .inr ?_;rcases hr:qd1 C.rd x with _|_
     ·exact(h3 ⟨ha,hr⟩).elim
     ·rfl
    ·exact .inl rfl
   ·exact .inl hx
 store:=fun k v s=>by
  unfold qcq;split
  ·exact Fit.refl C _
  split
  ·exact Fit.refl C _
  ·rename_i h1 h3;refine⟨fun _ h=>.inl h,fun x hx=>?_,id,fun a=>withS_asc a k⟩;rcases withS_mem.1 hx with rfl|hx
   ·refine .inr ⟨by simpa using h1,?_⟩;rcases ha:C.all with _|_
    ·refine .inr ?_;rcases hr:qd1 C.wr x with _|_
     ·exact(h3 ⟨ha,hr⟩).elim
     ·rfl
    ·exact .inl rfl
   ·exact .inl hx
 emit:=fun v s=>by
  unfold emitS;split
  ·exact Fit.refl C _
  ·exact⟨fun _ h=>.inl h,fun _ h=>.inl h,id,id⟩
 tick:=fun s=>⟨fun _ h=>.inl h,fun _ h=>.inl h,id,id⟩
 vars:=fun s n v=>⟨fun _ h=>.inl h,fun _ h=>.inl h,id,id⟩
section
variable {C:Cfg}
end
end Go.Cw
