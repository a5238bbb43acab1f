/- Part 22 of a proof. -/
import Derived.Test.YtbimdamecieomaaGreatDoorR21
set_option linter.all false
namespace Go.Cw
open Go Go.Abs
@[simp] theorem jhe(l:List (g9×V))(s:g9)(i:Int):qj (qua (l.map fun p=>(p.1,t7 p.2)) s (.agg [I 1,I i,S em]))=mb t7 (js l s (vI i)):=xup t7 l s (vI i)
def goX(e:Ex):Prop:=su e∧nodes e≤4095
def t8:St→Prop
 | .mk op _ _ a b body els=>(op≠8→goX a)∧(op=3∨op=6→goX b)∧(∀x∈body.attach,t8 x.1)∧∀x∈els.attach,t8 x.1
termination_by s=>SizeOf.sizeOf s
decreasing_by
 all_goals
  have:=fj x.2;simp only[St.mk.sizeOf_spec];omega
theorem qsn(t:St):t8 t↔(t.op≠8→goX t.a)∧(t.op=3∨t.op=6→goX t.b)∧(∀x∈t.body,t8 x)∧∀x∈t.els,t8 x:=by
 cases t with
 |mk op name mx a b body els =>
  rw[t8];simp[St.op,St.a,St.b,St.body,St.els]
structure Inv(r p:Nat)(s:MS):Prop where
 rng:qpc s
 ar:jp s.reads
 ap:jp s.puts
 st:s.steps≤16384
 rd:((s.reads.length+r:Nat):Int)≤8192 * s.steps
 pt:((s.puts.length+p:Nat):Int)≤s.steps
 ot:s.out.length≤16
theorem Inv.mono{r p r' p':Nat}{s:MS}(h:Inv r p s)(h1:r'≤r)(h2:p'≤p):Inv r' p' s:=⟨h.rng,h.ar,h.ap,h.st,by have:=h.rd;omega,by have:=h.pt;omega,h.ot⟩
theorem Inv.ev{r p n:Nat}{s t:MS}(h:Inv (r+n) p s)(g:EvOk s n t):Inv r p t:=by
 have h1:=h.rd;have h2:=g.len;refine⟨g.rng h.rng,g.asc,by rw[g.puts];exact h.ap,by rw[g.steps];exact h.st,by rw[g.steps];omega,by rw[g.steps,g.puts];exact h.pt,by rw[g.out];exact h.ot⟩
theorem Inv.tick{s t:MS}{u:Unit}(h:Inv 0 0 s)(g:qq s=(.ok u,t)):Inv 8192 1 t:=by
 unfold qq at g;split at g
 ·cases g
 ·cases g;exact⟨h.rng,h.ar,h.ap,cc,by have:=h.rd;simp only;omega,by have:=h.pt;simp only;omega,h.ot⟩
theorem xxk{s:MS}(h:qpc s){v:V}(hv:kp v)(k:g9):qpc { s with vars:=js s.vars k v }:=⟨fun p hp=>by
 rcases qxl hp with rfl|hp
 ·exact hv
 ·exact h.1 p hp,h.2⟩
theorem Inv.vars{r p:Nat}{s:MS}(h:Inv r p s){v:V}(hv:kp v)(k:g9):Inv r p { s with vars:=js s.vars k v }:=⟨xxk h.rng hv k,h.ar,h.ap,h.st,h.rd,h.pt,h.ot⟩
section
variable {C:Cfg}
theorem Inv.store{r:Nat}{s t:MS}{u:Unit}{k:g9}{v:V}(h:Inv r 1 s)(hv:kp v)(g:qz C k v s=(.ok u,t)):Inv r 0 t:=by
 unfold qz at g;split at g
 ·cases g
 split at g
 ·cases g
 ·cases g;refine⟨⟨h.rng.1,fun p hp=>?_⟩,h.ar,xb1 h.ap k,h.st,h.rd,?_,h.ot⟩
  ·rcases qxl hp with rfl|hp
   ·exact hv
   ·exact h.rng.2 p hp
  ·have:=qzx s.puts k;have:=h.pt;simp only;omega
theorem Inv.emit{r p:Nat}{s t:MS}{u:Unit}{v:V}(h:Inv r p s)(g:uj v s=(.ok u,t)):Inv r p t:=by
 unfold uj at g;split at g
 ·cases g
 ·rename_i hn;cases g;exact⟨h.rng,h.ar,h.ap,h.st,h.rd,h.pt,by have:=h.ot;simp;omega⟩
theorem Inv.eval(hC:ur C){r p:Nat}{s:MS}{e:Ex}(h:Inv (r+4095) p s)(he:goX e):Inv r p (kx C e s).2∧∀v,(kx C e s).1=.ok v→kp v:=by
 have h1:=qpl hC e s he.1 h.rng h.ar;exact⟨h.ev (h1.1.mono he.2),h1.2⟩
theorem xqn{body:MS→Except Stop Unit×MS}{name:g9}{b:Int}(hb:∀s u t,Inv 8192 1 s→body s=(.ok u,t)→Inv 0 0 t):∀(f:Nat) (i:Int) (s:MS) (u:Unit) (t:MS),i64 i→Inv 0 0 s→o8 body name b f i s=(.ok u,t)→Inv 0 0 t
 | 0,i,s,u,t,_,h,g=>by rw[o8]at g;cases g;exact h
 |f+1,i,s,u,t,hi,h,g=>by
  rw[o8]at g;split at g
  ·split at g
   ·cases g
   ·rename_i m' hm;have h1:=(h.tick hm).vars (qqb hi) name;split at g
    ·cases g
    ·rename_i kh pc;exact xqn hb f _ _ _ _ (qth _) (hb _ _ _ h1 pc) g
  ·cases g;exact h
mutual
theorem xdl(hC:ur C):∀(t:St) (s:MS) (u:Unit) (s':MS),t8 t→Inv 8192 1 s→oj C t s=(.ok u,s')→Inv 0 0 s'
 | .mk op name mx a b body els,s,u,s',hG,h,g=>by
  have hG':=(qsn _).1 hG;simp only[St.op,St.a,St.b,St.body,St.els]at hG';obtain⟨hA,hB,s6,qns⟩:=hG';rw[oj]at g;split at g
  ·have h1:=h.eval hC (r:=4097) (hA aa);split at g
   ·cases g
   ·rename_i v m' hm;rw[hm]at h1;cases g;exact(h1.1.vars (h1.2 _ rfl) name).mono aa aa
  split at g
  ·have h1:=h.eval hC (r:=4097) (hA aa);split at g
   ·cases g
   ·rename_i v m' hm;rw[hm]at h1;have h2:=h1.1.eval hC (r:=2) (hB aa);split at g
    ·cases g
    ·rename_i w kh pc;rw[pc]at h2;split at g
     ·exact(h2.1.store (h2.2 _ rfl) g).mono aa aa
     ·cases g
  split at g
  ·have h1:=h.eval hC (r:=4097) (hA aa);split at g
   ·cases g
   ·rename_i v m' hm;rw[hm]at h1;split at g
    ·exact(h1.1.store xcp g).mono aa aa
    ·cases g
  split at g
  ·have h1:=h.eval hC (r:=4097) (hA aa);split at g
   ·cases g
   ·rename_i v m' hm;rw[hm]at h1;split at g
    ·split at g
     ·exact qv2 hC body _ _ _ s6 (h1.1.mono aa aa) g
     ·exact qv2 hC els _ _ _ qns (h1.1.mono aa aa) g
    ·cases g
  split at g
  ·have h1:=h.eval hC (r:=4097) (hA aa);split at g
   ·cases g
   ·rename_i v m' hm;rw[hm]at h1;have h2:=h1.1.eval hC (r:=2) (hB aa);split at g
    ·cases g
    ·rename_i w kh pc;rw[pc]at h2;split at g
     ·split at g
      ·cases g
      ·exact xqn (fun s u t hs hg=>qv2 hC body s u t s6 (hs.mono aa aa) hg) _ _ _ _ _ (h1.2 _ rfl).1 (h2.1.mono aa aa) g
     ·cases g
  split at g
  ·have h1:=h.eval hC (r:=4097) (hA aa);split at g
   ·cases g
   ·rename_i v m' hm;rw[hm]at h1;split at g
    ·exact(h1.1.emit g).mono aa aa
    ·cases g
  split at g
  ·cases g
  ·cases g;exact h.mono aa aa
theorem qv2(hC:ur C):∀(l:List St) (s:MS) (u:Unit) (s':MS),(∀x∈l,t8 x)→Inv 0 0 s→kn C l s=(.ok u,s')→Inv 0 0 s'
 | [],s,u,s',_,h,g=>by rw[kn]at g;cases g;exact h
 |t::l,s,u,s',hG,h,g=>by
  rw[kn]at g;split at g
  ·cases g
  ·rename_i m' hm;split at g
   ·cases g
   ·rename_i kh pc;exact qv2 hC l _ _ _ (fun x hx=>hG x bt) (xdl hC t _ _ _ (hG t ae) (h.tick hm) pc) g
end
end
section
variable {C:Cfg}
theorem qu4(t:St)(m:MS):oj C t m = 
  if t.op=1∨t.op=2 then
   match kx C t.a m with
   |(.error z,m')=>(.error z,m')
   |(.ok v,m')=>(.ok (),{ m' with vars:=js m'.vars t.name v })
  else if t.op=3 then
   match kx C t.a m with
   |(.error z,m')=>(.error z,m')
   |(.ok k,m')=>match kx C t.b m' with
    |(.error z,kh)=>(.error z,kh)
    |(.ok v,kh)=>if k.k=2∧(v.k=1∨v.k=2)then qz C k.s v kh else(.error (ab 1009),kh)
  else if t.op=4 then
   match kx C t.a m with
   |(.error z,m')=>(.error z,m')
   |(.ok k,m')=>if k.k=2 then qz C k.s V.nil m' else(.error (ab 1009),m')
  else if t.op=5 then
   match kx C t.a m with
   |(.error z,m')=>(.error z,m')
   |(.ok c,m')=>if c.k=3 then(if c.n=1 then kn C t.body m' else kn C t.els m')else(.error (ab 1009),m')
  else if t.op=6 then oj C t m
  else if t.op=7 then
   match kx C t.a m with
   |(.error z,m')=>(.error z,m')
   |(.ok v,m')=>if v.k=1∨v.k=2 then uj v m' else(.error (ab 1009),m')
  else if t.op=8 then(.error (ab t.max),m)
  else(.ok (),m):=by
 by_cases h6:t.op=6
 ·simp[h6]
 cases t with
 |mk op name mx a b body els =>
  simp only[St.op,St.a,St.b,St.body,St.els,St.name,St.max]at h6⊢;rw[oj];simp only[h6,if_false];rfl
theorem jg8(k:g9)(s:MS):(r5 C k s).2.steps=s.steps:=by
 unfold r5
 repeat' split
 all_goals rfl
theorem jlz(op:Int)(l:List V)(s:MS):(ul C op l s).2.steps=s.steps:=by
 unfold ul;split
 ·rename_i a;unfold rr;have:=jg8 (C:=C) a.s s
  repeat' split
  all_goals first
   |rfl
   |(rename_i h;rw[h]at this;exact this)
 ·rfl
 ·rfl
mutual
theorem xgf:∀(e:Ex) (s:MS),(kx C e s).2.steps=s.steps
 | .mk op n t args,s=>by
  have hL:=xve args s;rw[kx];split
  ·rfl
  split
  ·rfl
  split
  ·rfl
  split
  ·rename_i h;rw[h]at hL;exact hL
  ·rename_i h;rw[h]at hL;rw[jlz];exact hL
theorem xve:∀(l:List Ex) (s:MS),(m6 C l s).2.steps=s.steps
 | [],s=>by rw[m6]
 |e::l,s=>by
  have hE:=xgf e s;rw[m6];split
  ·rename_i h;rw[h]at hE;exact hE
  ·rename_i m' h;rw[h]at hE;have hL:=xve l m';split
   ·rename_i h2;rw[h2]at hL;exact hL.trans hE
   ·rename_i h2;rw[h2]at hL;exact hL.trans hE
end
theorem xis(s:MS):(qq s).2.steps=s.steps+1:=rfl
theorem xta(k:g9)(v:V)(s:MS):(qz C k v s).2.steps=s.steps:=by
 unfold qz
 repeat' split
 all_goals rfl
theorem jhj(v:V)(s:MS):(uj v s).2.steps=s.steps:=by
 unfold uj;split<;>rfl
theorem xwa{body:MS→Except Stop Unit×MS}{name:g9}{b:Int}(hb:∀s,s.steps≤(body s).2.steps):∀(f:Nat) (i:Int) (s:MS),s.steps≤(o8 body name b f i s).2.steps
 | 0,i,s=>by rw[o8];simp
 |f+1,i,s=>by
  have hT:=xis s;rw[o8];split
  ·split
   ·rename_i h;rw[h]at hT;simp only at hT⊢;omega
   ·rename_i m' h;rw[h]at hT;have hB:=hb { m' with vars:=js m'.vars name (vI i) };split
    ·rename_i h2;rw[h2]at hB;simp only at hT hB⊢;omega
    ·rename_i kh h2;rw[h2]at hB;have:=xwa (name:=name) (b:=b) hb f (jt (i+1)) kh;simp only at hT hB⊢;omega
  ·simp
mutual
theorem xxj:∀(t:St) (s:MS),s.steps≤(oj C t s).2.steps
 | .mk op name mx a b body els,s=>by
  have hE:=xgf (C:=C) a s;rw[oj];split
  ·split
   ·rename_i h;rw[h]at hE;simp only at hE⊢;omega
   ·rename_i h;rw[h]at hE;simp only at hE⊢;omega
  split
  ·split
   ·rename_i h;rw[h]at hE;simp only at hE⊢;omega
   ·rename_i k m' h;rw[h]at hE;have lu:=xgf (C:=C) b m';split
    ·rename_i h2;rw[h2]at lu;simp only at hE lu⊢;omega
    ·rename_i v kh h2;rw[h2]at lu;have:=xta (C:=C) k.s v kh;split<;>simp only at hE lu⊢<;>omega
  split
  ·split
   ·rename_i h;rw[h]at hE;simp only at hE⊢;omega
   ·rename_i k m' h;rw[h]at hE;have:=xta (C:=C) k.s V.nil m';split<;>simp only at hE⊢<;>omega
  split
  ·split
   ·rename_i h;rw[h]at hE;simp only at hE⊢;omega
   ·rename_i k m' h;rw[h]at hE;have h1:=xcy body m';have h2:=xcy els m';split
    ·split<;>simp only at hE⊢<;>omega
    ·simp only at hE⊢;omega
  split
  ·split
   ·rename_i h;rw[h]at hE;simp only at hE⊢;omega
   ·rename_i u m' h;rw[h]at hE;have lu:=xgf (C:=C) b m';split
    ·rename_i h2;rw[h2]at lu;simp only at hE lu⊢;omega
    ·rename_i v kh h2;rw[h2]at lu;have:=xwa (body:=fun x=>kn C body x) (name:=name) (b:=v.n) (fun s=>xcy body s) 16386 u.n kh;split
     ·split<;>simp only at hE lu⊢<;>omega
     ·simp only at hE lu⊢;omega
  split
  ·split
   ·rename_i h;rw[h]at hE;simp only at hE⊢;omega
   ·rename_i v m' h;rw[h]at hE;have:=jhj v m';split<;>simp only at hE⊢<;>omega
  split
  ·simp
  ·simp
theorem xcy:∀(l:List St) (s:MS),s.steps≤(kn C l s).2.steps
 | [],s=>by rw[kn];simp
 |t::l,s=>by
  have hT:=xis s;rw[kn];split
  ·rename_i h;rw[h]at hT;simp only at hT⊢;omega
  ·rename_i m' h;rw[h]at hT;have hS:=xxj t m';split
   ·rename_i h2;rw[h2]at hS;simp only at hT hS⊢;omega
   ·rename_i kh h2;rw[h2]at hS;have:=xcy l kh;simp only at hT hS⊢;omega
end
end
def qmv:St→Prop
 | .mk _ _ _ a b body els=>su a∧su b∧(∀x∈body.attach,qmv x.1)∧∀x∈els.attach,qmv x.1
termination_by s=>SizeOf.sizeOf s
decreasing_by
 all_goals
  have:=fj x.2;simp only[St.mk.sizeOf_spec];omega
theorem xmg(t:St):qmv t↔su t.a∧su t.b∧(∀x∈t.body,qmv x)∧∀x∈t.els,qmv x:=by
 cases t with
 |mk op name mx a b body els =>
  rw[qmv];simp[St.a,St.b,St.body,St.els]
theorem xrk{e:Ex}(h:mg e 1=0)(hr:su e):goX e:=⟨hr,by have:=xjk e 1 12 h aa;omega⟩
theorem xll:∀(t:St) (d:Nat),tv t d→qmv t→t8 t
 | .mk op name mx a b body els,d,h,hr=>by
  have h1:=(xc _ _).1 h;have h2:=(xmg _).1 hr;refine(qsn _).2 ⟨fun k=>xrk (qw6 h k) h2.1,fun k=>xrk (qyb h k) h2.2.1,fun x hx=>?_,fun x hx=>?_⟩
  ·have:=fj (show x∈body from hx);exact xll x (d+1) (h1.2.1 x hx) (h2.2.2.1 x hx)
  ·have:=fj (show x∈els from hx);exact xll x (d+1) (h1.2.2 x hx) (h2.2.2.2 x hx)
termination_by t=>SizeOf.sizeOf t
decreasing_by
 all_goals
  simp only[St.mk.sizeOf_spec];omega
structure Keeps(C:Cfg)(P:MS→MS→Prop):Prop where
 refl:∀s,P s s
 trans:∀{a b c},P a b→P b c→P a c
 fetch:∀k s,P s (r5 C k s).2
 store:∀k v s,P s (qz C k v s).2
 emit:∀v s,P s (uj v s).2
 tick:∀s,P s (qq s).2
 vars:∀s n v,P s { s with vars:=js s.vars n v }
section
variable {C:Cfg} {P:MS→MS→Prop} (K:Keeps C P)
include K
theorem xu5(op:Int)(l:List V)(s:MS):P s (ul C op l s).2:=by
 unfold ul;split
 ·rename_i a;unfold rr;have:=K.fetch a.s s
  repeat' split
  all_goals first
   |exact K.refl _
   |(rename_i h;rw[h]at this;exact this)
 ·exact K.refl _
 ·exact K.refl _
mutual
theorem qze:∀(e:Ex) (s:MS),P s (kx C e s).2
 | .mk op n t args,s=>by
  have hL:=xh0 args s;rw[kx];split
  ·exact K.refl _
  split
  ·exact K.refl _
  split
  ·exact K.refl _
  split
  ·rename_i h;rw[h]at hL;exact hL
  ·rename_i h;rw[h]at hL;exact K.trans hL (xu5 K _ _ _)
theorem xh0:∀(l:List Ex) (s:MS),P s (m6 C l s).2
 | [],s=>by rw[m6];exact K.refl _
 |e::l,s=>by
  have hE:=qze e s;rw[m6];split
  ·rename_i h;rw[h]at hE;exact hE
  ·rename_i m' h;rw[h]at hE;have hL:=xh0 l m';split
   ·rename_i h2;rw[h2]at hL;exact K.trans hE hL
   ·rename_i h2;rw[h2]at hL;exact K.trans hE hL
end
theorem xdq{body:MS→Except Stop Unit×MS}{name:g9}{b:Int}(hb:∀s,P s (body s).2):∀(f:Nat) (i:Int) (s:MS),P s (o8 body name b f i s).2
 | 0,i,s=>by rw[o8];exact K.refl _
 |f+1,i,s=>by
  have hT:=K.tick s;rw[o8];split
  ·split
   ·rename_i h;rw[h]at hT;exact hT
   ·rename_i m' h;rw[h]at hT;have hV:=K.vars m' name (vI i);have hB:=hb { m' with vars:=js m'.vars name (vI i) };split
    ·rename_i h2;rw[h2]at hB;exact K.trans hT (K.trans hV hB)
    ·rename_i kh h2;rw[h2]at hB;exact K.trans hT (K.trans hV (K.trans hB (xdq hb f (jt (i+1)) kh)))
  ·exact K.refl _
mutual
theorem joa:∀(t:St) (s:MS),P s (oj C t s).2
 | .mk op name mx a b body els,s=>by
  have hE:=qze K a s;rw[oj];split
  ·split
   ·rename_i h;rw[h]at hE;exact hE
   ·rename_i v m' h;rw[h]at hE;exact K.trans hE (K.vars _ _ _)
  split
  ·split
   ·rename_i h;rw[h]at hE;exact hE
   ·rename_i k m' h;rw[h]at hE;have lu:=qze K b m';split
    ·rename_i h2;rw[h2]at lu;exact K.trans hE lu
    ·rename_i v kh h2;rw[h2]at lu;split
     ·exact K.trans hE (K.trans lu (K.store _ _ _))
     ·exact K.trans hE lu
  split
  ·split
   ·rename_i h;rw[h]at hE;exact hE
   ·rename_i k m' h;rw[h]at hE;split
    ·exact K.trans hE (K.store _ _ _)
    ·exact hE
  split
  ·split
   ·rename_i h;rw[h]at hE;exact hE
   ·rename_i k m' h;rw[h]at hE;split
    ·split
     ·exact K.trans hE (qtu body m')
     ·exact K.trans hE (qtu els m')
    ·exact hE
  split
  ·split
   ·rename_i h;rw[h]at hE;exact hE
   ·rename_i u m' h;rw[h]at hE;have lu:=qze K b m';split
    ·rename_i h2;rw[h2]at lu;exact K.trans hE lu
    ·rename_i v kh h2;rw[h2]at lu;split
     ·split
      ·exact K.trans hE lu
      ·exact K.trans hE (K.trans lu (xdq K (fun s=>qtu body s) _ _ _))
     ·exact K.trans hE lu
  split
  ·split
   ·rename_i h;rw[h]at hE;exact hE
   ·rename_i v m' h;rw[h]at hE;split
    ·exact K.trans hE (K.emit _ _)
    ·exact hE
  split
  ·exact K.refl _
  ·exact K.refl _
theorem qtu:∀(l:List St) (s:MS),P s (kn C l s).2
 | [],s=>by rw[kn];exact K.refl _
 |t::l,s=>by
  have hT:=K.tick s;rw[kn];split
  ·rename_i h;rw[h]at hT;exact hT
  ·rename_i m' h;rw[h]at hT;have hS:=joa t m';split
   ·rename_i h2;rw[h2]at hS;exact K.trans hT hS
   ·rename_i kh h2;rw[h2]at hS;exact K.trans hT (K.trans hS (qtu l kh))
end
end
def er{α:Type}:Except Stop α→Option Stop
 | .error z=>some z
 | .ok _=>none
structure Alike(C D:Cfg)(P:MS→MS→Prop)(ok:Option Stop→MS→Prop):Prop where
 K:Keeps C P
 fmt:D.fmt=C.fmt
 mono:∀{s t x},P s t→ok x t→ok none s
 fetch:∀k s,ok (er (r5 C k s).1) (r5 C k s).2→r5 D k s=r5 C k s
 store:∀k v s,ok (er (qz C k v s).1) (qz C k v s).2→qz D k v s=qz C k v s
section
variable {C D:Cfg} {P:MS→MS→Prop} {ok:Option Stop→MS→Prop} (A:Alike C D P ok)
include A
theorem jbt(op:Int)(l:List V)(s:MS)(h:ok (er (ul C op l s).1) (ul C op l s).2):ul D op l s=ul C op l s:=by
 unfold ul at h⊢;split
 ·rename_i a;simp only at h⊢;unfold rr at h⊢;rw[A.fmt];by_cases h1:op=9
  ·simp only[h1,if_true]
  by_cases h2:op=18
  ·simp only[h1,h2,if_true,if_false]
  by_cases h3:op=20
  ·simp only[h1,h2,h3,if_true,if_false]
  by_cases h4:op=21
  ·simp only[h1,h2,h3,h4,if_true,if_false]
  by_cases h5:a.k≠2
  ·simp only[h1,h2,h3,h4,h5,if_true,if_false,ne_eq,not_true,not_false_iff]
  ·simp only[h1,h2,h3,h4,h5,if_false]at h⊢;have hF:=A.fetch a.s s;rcases hx:r5 C a.s s with⟨z|v,m'⟩
   ·rw[hx]at h hF;rw[hF h]
   ·rw[hx]at h hF;rw[hF (A.mono (A.K.refl _) h)]
 ·rfl
 ·rfl
mutual
theorem xf1:∀(e:Ex) (s:MS),ok (er (kx C e s).1) (kx C e s).2→kx D e s=kx C e s
 | .mk op n t args,s,h=>by
  have hL:=xom args s;rw[kx]at h;rw[kx,kx];by_cases h1:op=1
  ·simp only[h1,if_true]
  by_cases h2:op=2
  ·simp only[h1,h2,if_true,if_false]
  by_cases h3:op=3
  ·simp only[h1,h2,h3,if_true,if_false]
  simp only[h1,h2,h3,if_false]at h⊢;rcases hx:m6 C args s with⟨z|l,m'⟩
  ·rw[hx]at h hL;rw[hL h]
  ·rw[hx]at h hL;rw[hL (A.mono (xu5 A.K _ _ _) h)];exact jbt A op l m' h
theorem xom:∀(l:List Ex) (s:MS),ok (er (m6 C l s).1) (m6 C l s).2→m6 D l s=m6 C l s
 | [],s,_=>by rw[m6,m6]
 |e::l,s,h=>by
  have hE:=xf1 e s;rw[m6]at h;rw[m6,m6];rcases hx:kx C e s with⟨z|v,m'⟩
  ·rw[hx]at h hE;rw[hE h]
  ·rw[hx]at h hE;simp only at h⊢;have hL:=xom l m';have hK:=xh0 A.K l m';rcases hy:m6 C l m' with⟨z|r,kh⟩
   ·rw[hy]at h hL hK;rw[hE (A.mono hK h)];simp only;rw[hL h]
   ·rw[hy]at h hL hK;rw[hE (A.mono hK h)];simp only;rw[hL h]
end
theorem xw1{body body':MS→Except Stop Unit×MS}{name:g9}{b:Int}(hk:∀s,P s (body s).2)(hb:∀s,ok (er (body s).1) (body s).2→body' s=body s):∀(f:Nat) (i:Int) (s:MS),ok (er (o8 body name b f i s).1) (o8 body name b f i s).2→o8 body' name b f i s=o8 body name b f i s
 | 0,i,s,_=>by rw[o8,o8]
 |f+1,i,s,h=>by
  rw[o8]at h;rw[o8,o8];by_cases hi:i<b
  ·simp only[hi,if_true]at h⊢;rcases hT:qq s with⟨z|u,m'⟩
   ·rfl
   ·rw[hT]at h;simp only at h⊢;have hB:=hb { m' with vars:=js m'.vars name (vI i) };rcases hx:body { m' with vars:=js m'.vars name (vI i) }with⟨z|u,kh⟩
    ·rw[hx]at h hB;rw[hB h]
    ·rw[hx]at h hB;simp only at h⊢;rw[hB (A.mono (xdq A.K hk _ _ _) h)];exact xw1 hk hb f _ _ h
  ·simp only[hi,if_false]
mutual
theorem xzg:∀(t:St) (s:MS),ok (er (oj C t s).1) (oj C t s).2→oj D t s=oj C t s
 | .mk op name mx a b body els,s,h=>by
  have hE:=xf1 A a s;rw[oj]at h;rw[oj,oj];by_cases h1:op=1∨op=2
  ·simp only[h1,if_true]at h⊢;rcases hx:kx C a s with⟨z|v,m'⟩
   ·rw[hx]at h hE;rw[hE h]
   ·rw[hx]at h hE;rw[hE (A.mono (A.K.vars _ _ _) h)]
  simp only[h1,if_false]at h⊢;by_cases h3:op=3
  ·simp only[h3,if_true]at h⊢;rcases hx:kx C a s with⟨z|v,m'⟩
   ·rw[hx]at h hE;rw[hE h]
   ·rw[hx]at h hE;simp only at h⊢;have lu:=xf1 A b m';have hK:=qze A.K b m';rcases hy:kx C b m' with⟨z|w,kh⟩
    ·rw[hy]at h lu hK;rw[hE (A.mono hK h)];simp only;rw[lu h]
    ·rw[hy]at h lu hK;simp only at h⊢;split at h
     ·rename_i hc;have h0:=A.mono (A.K.store v.s w kh) h;rw[hE (A.mono hK h0)];simp only;rw[lu h0];simp only[hc,and_self,if_true];exact A.store v.s w kh h
     ·rename_i hc;have h0:=A.mono (A.K.refl _) h;rw[hE (A.mono hK h0)];simp only;rw[lu h0];simp only[hc,if_false]
  simp only[h3,if_false]at h⊢;by_cases h4:op=4
  ·simp only[h4,if_true]at h⊢;rcases hx:kx C a s with⟨z|v,m'⟩
   ·rw[hx]at h hE;rw[hE h]
   ·rw[hx]at h hE;simp only at h⊢;split at h
    ·rename_i hc;rw[hE (A.mono (A.K.store v.s V.nil m') h)];simp only[hc,if_true];exact A.store v.s V.nil m' h
    ·rename_i hc;rw[hE (A.mono (A.K.refl _) h)];simp only[hc,if_false]
  simp only[h4,if_false]at h⊢;by_cases h5:op=5
  ·simp only[h5,if_true]at h⊢;rcases hx:kx C a s with⟨z|v,m'⟩
   ·rw[hx]at h hE;rw[hE h]
   ·rw[hx]at h hE;simp only at h⊢;split at h
    ·rename_i hc;split at h
     ·rename_i hn;rw[hE (A.mono (qtu A.K body m') h)];simp only[hc,hn,if_true];exact xca body m' h
     ·rename_i hn;rw[hE (A.mono (qtu A.K els m') h)];simp only[hc,hn,if_true,if_false];exact xca els m' h
    ·rename_i hc;rw[hE (A.mono (A.K.refl _) h)];simp only[hc,if_false]
  simp only[h5,if_false]at h⊢;by_cases h6:op=6
  ·simp only[h6,if_true]at h⊢;rcases hx:kx C a s with⟨z|v,m'⟩
   ·rw[hx]at h hE;rw[hE h]
   ·rw[hx]at h hE;simp only at h⊢;have lu:=xf1 A b m';have hK:=qze A.K b m';rcases hy:kx C b m' with⟨z|w,kh⟩
    ·rw[hy]at h lu hK;rw[hE (A.mono hK h)];simp only;rw[lu h]
    ·rw[hy]at h lu hK;simp only at h⊢;split at h
     ·rename_i hc;split at h
      ·rename_i ht;have h0:=A.mono (A.K.refl _) h;rw[hE (A.mono hK h0)];simp only;rw[lu h0];simp only[hc,ht,and_self,if_true]
      ·rename_i ht;have h0:=A.mono (xdq A.K (fun s=>qtu A.K body s) _ _ _) h;rw[hE (A.mono hK h0)];simp only;rw[lu h0];simp only[hc,ht,and_self,if_true,if_false];exact xw1 A (fun s=>qtu A.K body s) (fun s=>xca body s) _ _ _ h
     ·rename_i hc;have h0:=A.mono (A.K.refl _) h;rw[hE (A.mono hK h0)];simp only;rw[lu h0];simp only[hc,if_false]
  simp only[h6,if_false]at h⊢;by_cases h7:op=7
  ·simp only[h7,if_true]at h⊢;rcases hx:kx C a s with⟨z|v,m'⟩
   ·rw[hx]at h hE;rw[hE h]
   ·rw[hx]at h hE;simp only at h⊢;split at h
    ·rename_i hc;rw[hE (A.mono (A.K.emit v m') h)]
    ·rename_i hc;rw[hE (A.mono (A.K.refl _) h)]
  simp only[h7,if_false]
theorem xca:∀(l:List St) (s:MS),ok (er (kn C l s).1) (kn C l s).2→kn D l s=kn C l s
 | [],s,_=>by rw[kn,kn]
 |t::l,s,h=>by
  rw[kn]at h;rw[kn,kn];rcases hT:qq s with⟨z|u,m'⟩
  ·rfl
  ·rw[hT]at h;simp only at h⊢;have hS:=xzg t m';rcases hx:oj C t m' with⟨z|u,kh⟩
   ·rw[hx]at h hS;rw[hS h]
   ·rw[hx]at h hS;simp only at h⊢;rw[hS (A.mono (qtu A.K l kh) h)];exact xca l kh h
end
end
theorem qzh{l:List g9}{k x:g9}:x∈sq l k↔x=k∨x∈l:=by
 unfold sq;split
 ·rename_i h;have hk:k∈l:=c7 h;constructor
  ·exact .inr
  ·rintro(rfl|h)
   ·exact hk
   ·exact h
 ·have e:=qlh (jv k l) l;rw[dt,cw];constructor
  ·rintro(h|h|h)
   ·exact .inr (gc h)
   ·exact .inl h
   ·exact .inr (qla h)
  ·rintro(h|h)
   ·exact .inr (.inl h)
   ·rw[←e,dt]at h;rcases h with h|h
    ·exact .inl h
    ·exact .inr (.inr h)
def Grow(s t:MS):Prop:=(∀k∈s.reads,k∈t.reads)∧(∀k∈s.puts,k∈t.puts)∧s.steps≤t.steps
theorem Grow.refl(s:MS):Grow s s:=⟨fun _ h=>h,fun _ h=>h,ct _⟩
theorem jak(C:Cfg):Keeps C Grow where
 refl:=Grow.refl
 trans:=fun h g=>⟨fun k hk=>g.1 k (h.1 k hk),fun k hk=>g.2.1 k (h.2.1 k hk),d9 h.2.2 g.2.2⟩
 fetch:=fun k s=>by
  unfold r5;split
  ·exact Grow.refl _
  split
  ·exact Grow.refl _
  split
  ·exact Grow.refl _
  ·exact⟨fun x hx=>qzh.2 (.inr hx),fun _ h=>h,ct _⟩
 store:=fun k v s=>by
  unfold qz;split
  ·exact Grow.refl _
  split
  ·exact Grow.refl _
  ·exact⟨fun _ h=>h,fun x hx=>qzh.2 (.inr hx),ct _⟩
 emit:=fun v s=>by
  unfold uj;split
  ·exact Grow.refl _
  ·exact⟨fun _ h=>h,fun _ h=>h,ct _⟩
 tick:=fun s=>⟨fun _ h=>h,fun _ h=>h,by simp[qq]⟩
 vars:=fun s n v=>⟨fun _ h=>h,fun _ h=>h,ct _⟩
theorem jay(C:Cfg)(st:List Pr):Alike C { C with state:=st } Grow (fun _ m=>∀k∈m.reads,lh C.state k=lh st k) where
 K:=jak C
 fmt:=rfl
 mono:=fun h g k hk=>g k (h.1 k hk)
 fetch:=fun k s h=>by
  unfold r5 at h⊢;split
  ·rfl
  split
  ·rfl
  split
  ·rfl
  ·rename_i h1 _ h2 h3;simp only[h1,if_false,h2,h3]at h;have:=h k (qzh.2 (.inl rfl));simp only[this]
 store:=fun k v s _=>rfl
structure Fit(C:Cfg)(s t:MS):Prop where
 rd:∀k∈t.reads,k∈s.reads∨(rk k=true∧(C.all=true∨jk C.rd k=true))
 pt:∀k∈t.puts,k∈s.puts∨(rk k=true∧(C.all=true∨jk C.wr k=true))
 ar:jp s.reads→jp t.reads
 ap:jp s.puts→jp t.puts
theorem Fit.refl(C:Cfg)(s:MS):Fit C s s:=⟨fun _ h=>.inl h,fun _ h=>.inl h,id,id⟩
theorem je2(C:Cfg):Keeps C (Fit C) where
 refl:=Fit.refl C
 trans:=fun h g=>⟨fun k hk=>(g.rd k hk).elim (h.rd k) .inr,fun k hk=>(g.pt k hk).elim (h.pt k) .inr,fun a=>g.ar (h.ar a),fun a=>g.ap (h.ap a)⟩
 fetch:=fun k s=>by
  unfold r5;split
  ·exact Fit.refl C _
  split
  ·exact Fit.refl C _
  split
  ·exact Fit.refl C _
  ·rename_i h1 _ _ h3;refine⟨fun x hx=>?_,fun _ h=>.inl h,fun a=>xb1 a k,id⟩;rcases qzh.1 hx with rfl|hx
   ·refine .inr ⟨av,?_⟩;rcases ha:C.all with _|_
    ·refine .inr ?_;rcases hr:jk C.rd x with _|_
     ·exact(h3 ⟨ha,hr⟩).elim
     ·rfl
    ·exact .inl rfl
   ·exact .inl hx
 store:=fun k v s=>by
  unfold qz;split
  ·exact Fit.refl C _
  split
  ·exact Fit.refl C _
  ·rename_i h1 h3;refine⟨fun _ h=>.inl h,fun x hx=>?_,id,fun a=>xb1 a k⟩;rcases qzh.1 hx with rfl|hx
   ·refine .inr ⟨av,?_⟩;rcases ha:C.all with _|_
    ·refine .inr ?_;rcases hr:jk C.wr x with _|_
     ·exact(h3 ⟨ha,hr⟩).elim
     ·rfl
    ·exact .inl rfl
   ·exact .inl hx
 emit:=fun v s=>by
  unfold uj;split
  ·exact Fit.refl C _
  ·exact⟨fun _ h=>.inl h,fun _ h=>.inl h,id,id⟩
 tick:=fun s=>⟨fun _ h=>.inl h,fun _ h=>.inl h,id,id⟩
 vars:=fun s n v=>⟨fun _ h=>.inl h,fun _ h=>.inl h,id,id⟩
def qro(C:Cfg)(z:Stop):Prop:=(∃c,z=ab c)∨∃k,z=rst k∧C.all=false∧rk k=true∧(jk C.rd k=false∨jk C.wr k=false)
theorem xn6{r:Int×Int}{z:Stop}(h:sj r=.error z):∃c,z=ab c:=by
 unfold sj at h
 repeat' split at h
 all_goals cases h
 all_goals exact⟨_,rfl⟩
theorem xha{s:g9}{z:Stop}(h:wq s=.error z):∃c,z=ab c:=by
 unfold wq at h
 repeat' split at h
 all_goals cases h
 all_goals exact⟨_,rfl⟩
theorem jee{op:Int}{a b:V}{z:Stop}(h:s8 op a b=.error z):∃c,z=ab c:=by
 unfold s8 at h;split at h
 ·split at h
  ·unfold yc at h
   repeat' split at h
   all_goals exact xn6 h
  ·cases h;exact⟨_,rfl⟩
 split at h
 ·split at h<;>cases h;exact⟨_,rfl⟩
 split at h
 ·split at h<;>cases h;exact⟨_,rfl⟩
 split at h
 ·split at h
  ·exact xha h
  ·cases h;exact⟨_,rfl⟩
 ·unfold qtr at h;split at h<;>cases h;exact⟨_,rfl⟩
theorem jmj{op:Int}{v:V}{z:Stop}(h:wd op v=.error z):∃c,z=ab c:=by
 unfold wd at h;split at h
 ·cases h
 split at h
 ·cases h
 split at h
 ·exact xha h
 split at h<;>cases h;exact⟨_,rfl⟩
section
variable {C:Cfg}
theorem jlv{k:g9}{s t:MS}{z:Stop}(h:r5 C k s=(.error z,t)):qro C z:=by
 unfold r5 at h;split at h
 ·cases h;exact .inl ⟨_,rfl⟩
 split at h
 ·cases h
 split at h
 ·rename_i h1 _ _ h3;cases h;exact .inr ⟨k,rfl,h3.1,av,.inl h3.2⟩
 ·cases h
theorem xnw{k:g9}{v:V}{s t:MS}{z:Stop}(h:qz C k v s=(.error z,t)):qro C z:=by
 unfold qz at h;split at h
 ·cases h;exact .inl ⟨_,rfl⟩
 split at h
 ·rename_i h1 h3;cases h;exact .inr ⟨k,rfl,h3.1,av,.inr h3.2⟩
 ·cases h
theorem jbs{v:V}{s t:MS}{z:Stop}(h:uj v s=(.error z,t)):qro C z:=by
 unfold uj at h;split at h
 ·cases h;exact .inl ⟨_,rfl⟩
 ·cases h
theorem xpm{s t:MS}{z:Stop}(h:qq s=(.error z,t)):qro C z:=by
 unfold qq at h;split at h
 ·cases h;exact .inl ⟨_,rfl⟩
 ·cases h
theorem jki{op:Int}{l:List V}{s t:MS}{z:Stop}(h:ul C op l s=(.error z,t)):qro C z:=by
 have hx:∀{x:EV} {u:MS},(x,u)=((.error z,t):EV×MS)→x=.error z:=fun h=>congrArg Prod.fst h;unfold ul at h;split at h
 ·rename_i a;unfold rr at h;split at h
  ·have h:=hx h;split at h
   ·exact .inl (xn6 h)
   ·cases h;exact .inl ⟨_,rfl⟩
  split at h
  ·have h:=hx h;split at h<;>cases h;exact .inl ⟨_,rfl⟩
  split at h
  ·have h:=hx h;split at h
   ·exact .inl (xha h)
   ·cases h;exact .inl ⟨_,rfl⟩
  split at h
  ·have h:=hx h;split at h<;>cases h;exact .inl ⟨_,rfl⟩
  split at h
  ·cases h;exact .inl ⟨_,rfl⟩
  split at h
  ·rename_i hf;cases h;exact jlv hf
  ·exact .inl (jmj (hx h))
 ·exact .inl (jee (hx h))
 ·cases h;exact .inl ⟨_,rfl⟩
mutual
theorem qup:∀(e:Ex) (s t:MS) (z:Stop),kx C e s=(.error z,t)→qro C z
 | .mk op n x args,s,t,z,h=>by
  rw[kx]at h;split at h
  ·cases h
  split at h
  ·cases h
  split at h
  ·have h:=congrArg Prod.fst h;simp only at h;split at h<;>cases h;exact .inl ⟨_,rfl⟩
  split at h
  ·rename_i hL;cases h;exact xpf args s _ _ hL
  ·exact jki h
theorem xpf:∀(l:List Ex) (s t:MS) (z:Stop),m6 C l s=(.error z,t)→qro C z
 | [],s,t,z,h=>by rw[m6]at h;cases h
 |e::l,s,t,z,h=>by
  rw[m6]at h;split at h
  ·rename_i hE;cases h;exact qup e s _ _ hE
  ·split at h
   ·rename_i hL;cases h;exact xpf l _ _ _ hL
   ·cases h
end
theorem xo3{body:MS→Except Stop Unit×MS}{name:g9}{b:Int}(hb:∀s t z,body s=(.error z,t)→qro C z):∀(f:Nat) (i:Int) (s t:MS) (z:Stop),o8 body name b f i s=(.error z,t)→qro C z
 | 0,i,s,t,z,h=>by rw[o8]at h;cases h
 |f+1,i,s,t,z,h=>by
  rw[o8]at h;split at h
  ·split at h
   ·rename_i hT;cases h;exact xpm hT
   ·split at h
    ·rename_i hB;cases h;exact hb _ _ _ hB
    ·exact xo3 hb f _ _ _ _ h
  ·cases h
mutual
theorem xyr:∀(x:St) (s t:MS) (z:Stop),oj C x s=(.error z,t)→qro C z
 | .mk op name mx a b body els,s,t,z,h=>by
  rw[oj]at h;split at h
  ·split at h
   ·rename_i hE;cases h;exact qup a s _ _ hE
   ·cases h
  split at h
  ·split at h
   ·rename_i hE;cases h;exact qup a s _ _ hE
   ·split at h
    ·rename_i hE;cases h;exact qup b _ _ _ hE
    ·split at h
     ·exact xnw h
     ·cases h;exact .inl ⟨_,rfl⟩
  split at h
  ·split at h
   ·rename_i hE;cases h;exact qup a s _ _ hE
   ·split at h
    ·exact xnw h
    ·cases h;exact .inl ⟨_,rfl⟩
  split at h
  ·split at h
   ·rename_i hE;cases h;exact qup a s _ _ hE
   ·split at h
    ·split at h
     ·exact xat body _ _ _ h
     ·exact xat els _ _ _ h
    ·cases h;exact .inl ⟨_,rfl⟩
  split at h
  ·split at h
   ·rename_i hE;cases h;exact qup a s _ _ hE
   ·split at h
    ·rename_i hE;cases h;exact qup b _ _ _ hE
    ·split at h
     ·split at h
      ·cases h;exact .inl ⟨_,rfl⟩
      ·exact xo3 (fun s t z h=>xat body s t z h) _ _ _ _ _ h
     ·cases h;exact .inl ⟨_,rfl⟩
  split at h
  ·split at h
   ·rename_i hE;cases h;exact qup a s _ _ hE
   ·split at h
    ·exact jbs h
    ·cases h;exact .inl ⟨_,rfl⟩
  split at h
  ·cases h;exact .inl ⟨_,rfl⟩
  ·cases h
theorem xat:∀(l:List St) (s t:MS) (z:Stop),kn C l s=(.error z,t)→qro C z
 | [],s,t,z,h=>by rw[kn]at h;cases h
 |x::l,s,t,z,h=>by
  rw[kn]at h;split at h
  ·rename_i hT;cases h;exact xpm hT
  ·split at h
   ·rename_i hS;cases h;exact xyr x _ _ _ hS
   ·exact xat l _ _ _ h
end
end
end Go.Cw
