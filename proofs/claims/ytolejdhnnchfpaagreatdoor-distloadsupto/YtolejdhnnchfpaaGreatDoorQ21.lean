/- Part 21 of a proof. -/
import Derived.Test.YtolejdhnnchfpaaGreatDoorQ20
set_option linter.all false
namespace Go.Cw
open Go Go.Abs
section
variable {C:Cfg}
theorem jbx(t:St)(m:MS):r7 C t m = 
  if t.op=1\/t.op=2 then
   match mg C t.a m with
   |(.error z,m')=>(.error z,m')
   |(.ok v,m')=>(.ok (),{ m' with vars:=lx m'.vars t.name v })
  else if t.op=3 then
   match mg C t.a m with
   |(.error z,m')=>(.error z,m')
   |(.ok k,m')=>match mg C t.b m' with
    |(.error z,lh)=>(.error z,lh)
    |(.ok v,lh)=>if k.k=2/\(v.k=1\/v.k=2)then tv C k.s v lh else(.error (ab 1009),lh)
  else if t.op=4 then
   match mg C t.a m with
   |(.error z,m')=>(.error z,m')
   |(.ok k,m')=>if k.k=2 then tv C k.s V.nil m' else(.error (ab 1009),m')
  else if t.op=5 then
   match mg C t.a m with
   |(.error z,m')=>(.error z,m')
   |(.ok c,m')=>if c.k=3 then(if c.n=1 then mc C t.body m' else mc C t.els m')else(.error (ab 1009),m')
  else if t.op=6 then r7 C t m
  else if t.op=7 then
   match mg C t.a m with
   |(.error z,m')=>(.error z,m')
   |(.ok v,m')=>if v.k=1\/v.k=2 then yx v m' else(.error (ab 1009),m')
  else if t.op=8 then(.error (ab t.max),m)
  else(.ok (),m):=by
 by_cases h6:t.op=6
 .simp[h6]
 cases t with
 |mk op name mx a b body els =>
  simp only[St.op,St.a,St.b,St.body,St.els,St.name,St.max]at h6|-;rw[r7];simp only[h6,if_false];rfl
theorem jhh(k:ig)(s:MS):(um C k s).2.steps=s.steps:=by grind[um]
theorem jjl(op:Int)(l:List V)(s:MS):(vz C op l s).2.steps=s.steps:=by
 unfold vz;split
 .grind[unS,jhh]
 .rfl
 .rfl
mutual
theorem xfy:∀(e:Ex) (s:MS),(mg C e s).2.steps=s.steps
 | .mk op n t args,s=>by
  have hL:=xox args s;rw[mg];split
  .rfl
  split
  .rfl
  split
  .rfl
  split
  .grind
  .grind[jjl]
theorem xox:∀(l:List Ex) (s:MS),(pa C l s).2.steps=s.steps
 | [],s=>by rw[pa]
 |e::l,s=>by
  have hE:=xfy e s;rw[pa];split
  .grind
  .rename_i m' h;rw[h]at hE;have hL:=xox l m';split
   .grind
   .grind
end
theorem xgn(s:MS):(wv s).2.steps=s.steps+1:=rfl
theorem xp1(k:ig)(v:V)(s:MS):(tv C k v s).2.steps=s.steps:=by grind[tv]
theorem jkv(v:V)(s:MS):(yx v s).2.steps=s.steps:=by grind[yx]
theorem xri{body:MS->Except Stop Unit×MS}{name:ig}{b:Int}(hb:∀s,s.steps<=(body s).2.steps):∀(f:Nat) (i:Int) (s:MS),s.steps<=(q8 body name b f i s).2.steps
 | 0,i,s=>by rw[q8];simp
 |f+1,i,s=>by
  have hT:=xgn s;rw[q8];split
  .split
   .grind
   .rename_i m' h;rw[h]at hT;have hB:=hb { m' with vars:=lx m'.vars name (vI i) };split
    .grind
    .rename_i lh h2;rw[h2]at hB;have:=xri (name:=name) (b:=b) hb f (pi (i+1)) lh;simp only at hT hB|-;omega
  .simp
mutual
theorem jci:∀(t:St) (s:MS),s.steps<=(r7 C t s).2.steps
 | .mk op name mx a b body els,s=>by
  have hE:=xfy (C:=C) a s;rw[r7];split
  .grind
  split
  .grind[xfy,xp1]
  split
  .grind[xp1]
  split
  .split
   .grind
   .rename_i k m' h;rw[h]at hE;have h1:=xb5 body m';have h2:=xb5 els m';split
    .grind
    .grind
  split
  .split
   .grind
   .rename_i u m' h;rw[h]at hE;have m9:=xfy (C:=C) b m';split
    .grind
    .rename_i v lh h2;rw[h2]at m9;have:=xri (body:=λx=>mc C body x) (name:=name) (b:=v.n) (λs=>xb5 body s) 16386 u.n lh;split
     .grind
     .grind
  split
  .grind[jkv]
  split
  .simp
  .simp
theorem xb5:∀(l:List St) (s:MS),s.steps<=(mc C l s).2.steps
 | [],s=>by rw[mc];simp
 |t::l,s=>by
  have hT:=xgn s;rw[mc];split
  .grind
  .rename_i m' h;rw[h]at hT;have hS:=jci t m';split
   .grind
   .rename_i lh h2;rw[h2]at hS;have:=xb5 l lh;simp only at hT hS|-;omega
end
end
def qky:St->Prop
 | .mk _ _ _ a b body els=>vd a/\vd b/\(∀x∈body.attach,qky x.1)/\∀x∈els.attach,qky x.1
termination_by s=>SizeOf.sizeOf s
decreasing_by
 all_goals
  have:=gb x.2;simp only[St.mk.sizeOf_spec];omega
theorem xhy(t:St):qky t↔vd t.a/\vd t.b/\(∀x∈t.body,qky x)/\∀x∈t.els,qky x:=by
 cases t with
 |mk op name mx a b body els =>
  rw[qky];simp[St.a,St.b,St.body,St.els]
theorem xr9{e:Ex}(h:py e 1=0)(hr:vd e):goX e:=⟨hr,by have:=xqj e 1 12 h aa;omega⟩
theorem xkl:∀(t:St) (d:Nat),okS t d->qky t->goS t
 | .mk op name mx a b body els,d,h,hr=>by
  have h1:=(qso _ _).1 h;have h2:=(xhy _).1 hr;refine(qye _).2 ⟨λk=>xr9 (qy7 h k) h2.1,λk=>xr9 (qz2 h k) h2.2.1,λx hx=>?_,λx hx=>?_⟩
  .have:=gb (show x∈body from hx);exact xkl x (d+1) (h1.2.1 x hx) (h2.2.2.1 x hx)
  .have:=gb (show x∈els from hx);exact xkl x (d+1) (h1.2.2 x hx) (h2.2.2.2 x hx)
termination_by t=>SizeOf.sizeOf t
decreasing_by
 all_goals
  simp only[St.mk.sizeOf_spec];omega
structure Keeps(C:Cfg)(P:MS->MS->Prop):Prop where
 refl:∀s,P s s
 trans:∀{a b c},P a b->P b c->P a c
 fetch:∀k s,P s (um C k s).2
 store:∀k v s,P s (tv C k v s).2
 emit:∀v s,P s (yx v s).2
 tick:∀s,P s (wv s).2
 vars:∀s n v,P s { s with vars:=lx s.vars n v }
section
variable {C:Cfg} {P:MS->MS->Prop} (K:Keeps C P)
include K
theorem xpe(op:Int)(l:List V)(s:MS):P s (vz C op l s).2:=by
 unfold vz;split
 .rename_i a;unfold unS;have:=K.fetch a.s s
  repeat' split
  all_goals first
   |exact K.refl _
   |(rename_i h;rw[h]at this;exact this)
 .exact K.refl _
 .exact K.refl _
mutual
theorem qyl:∀(e:Ex) (s:MS),P s (mg C e s).2
 | .mk op n t args,s=>by
  have hL:=xjd args s;rw[mg];split
  .exact K.refl _
  split
  .exact K.refl _
  split
  .exact K.refl _
  split
  .grind
  .rename_i h;rw[h]at hL;exact K.trans hL (xpe K _ _ _)
theorem xjd:∀(l:List Ex) (s:MS),P s (pa C l s).2
 | [],s=>by rw[pa];exact K.refl _
 |e::l,s=>by
  have hE:=qyl e s;rw[pa];split
  .grind
  .rename_i m' h;rw[h]at hE;have hL:=xjd l m';split
   .rename_i h2;rw[h2]at hL;exact K.trans hE hL
   .rename_i h2;rw[h2]at hL;exact K.trans hE hL
end
theorem xcn{body:MS->Except Stop Unit×MS}{name:ig}{b:Int}(hb:∀s,P s (body s).2):∀(f:Nat) (i:Int) (s:MS),P s (q8 body name b f i s).2
 | 0,i,s=>by rw[q8];exact K.refl _
 |f+1,i,s=>by
  have hT:=K.tick s;rw[q8];split
  .split
   .grind
   .rename_i m' h;rw[h]at hT;have hV:=K.vars m' name (vI i);have hB:=hb { m' with vars:=lx m'.vars name (vI i) };split
    .rename_i h2;rw[h2]at hB;exact K.trans hT (K.trans hV hB)
    .rename_i lh h2;rw[h2]at hB;exact K.trans hT (K.trans hV (K.trans hB (xcn hb f (pi (i+1)) lh)))
  .exact K.refl _
mutual
theorem jhq:∀(t:St) (s:MS),P s (r7 C t s).2
 | .mk op name mx a b body els,s=>by
  have hE:=qyl K a s;rw[r7];split
  .split
   .grind
   .rename_i v m' h;rw[h]at hE;exact K.trans hE (K.vars _ _ _)
  split
  .split
   .grind
   .rename_i k m' h;rw[h]at hE;have m9:=qyl K b m';split
    .rename_i h2;rw[h2]at m9;exact K.trans hE m9
    .rename_i v lh h2;rw[h2]at m9;split
     .exact K.trans hE (K.trans m9 (K.store _ _ _))
     .exact K.trans hE m9
  split
  .split
   .grind
   .rename_i k m' h;rw[h]at hE;split
    .exact K.trans hE (K.store _ _ _)
    .exact hE
  split
  .split
   .grind
   .rename_i k m' h;rw[h]at hE;split
    .split
     .exact K.trans hE (qsd body m')
     .exact K.trans hE (qsd els m')
    .exact hE
  split
  .split
   .grind
   .rename_i u m' h;rw[h]at hE;have m9:=qyl K b m';split
    .rename_i h2;rw[h2]at m9;exact K.trans hE m9
    .rename_i v lh h2;rw[h2]at m9;split
     .split
      .exact K.trans hE m9
      .exact K.trans hE (K.trans m9 (xcn K (λs=>qsd body s) _ _ _))
     .exact K.trans hE m9
  split
  .split
   .grind
   .rename_i v m' h;rw[h]at hE;split
    .exact K.trans hE (K.emit _ _)
    .exact hE
  split
  .exact K.refl _
  .exact K.refl _
theorem qsd:∀(l:List St) (s:MS),P s (mc C l s).2
 | [],s=>by rw[mc];exact K.refl _
 |t::l,s=>by
  have hT:=K.tick s;rw[mc];split
  .grind
  .rename_i m' h;rw[h]at hT;have hS:=jhq t m';split
   .rename_i h2;rw[h2]at hS;exact K.trans hT hS
   .rename_i lh h2;rw[h2]at hS;exact K.trans hT (K.trans hS (qsd l lh))
end
end
def er{α:Type}:Except Stop α->Option Stop
 | .error z=>some z
 | .ok _=>none
structure Alike(C D:Cfg)(P:MS->MS->Prop)(ok:Option Stop->MS->Prop):Prop where
 K:Keeps C P
 fmt:D.fmt=C.fmt
 mono:∀{s t x},P s t->ok x t->ok none s
 fetch:∀k s,ok (er (um C k s).1) (um C k s).2->um D k s=um C k s
 store:∀k v s,ok (er (tv C k v s).1) (tv C k v s).2->tv D k v s=tv C k v s
section
variable {C D:Cfg} {P:MS->MS->Prop} {ok:Option Stop->MS->Prop} (A:Alike C D P ok)
include A
theorem jdk(op:Int)(l:List V)(s:MS)(h:ok (er (vz C op l s).1) (vz C op l s).2):vz D op l s=vz C op l s:=by
 unfold vz at h|-;split
 .rename_i a;simp only at h|-;unfold unS at h|-;rw[A.fmt];by_cases h1:op=9
  .grind
  by_cases h2:op=18
  .grind
  by_cases h3:op=20
  .grind
  by_cases h4:op=21
  .grind
  by_cases h5:a.k≠2
  .grind
  .simp only[h1,h2,h3,h4,h5,if_false]at h|-;have hF:=A.fetch a.s s;rcases hx:um C a.s s with⟨z|v,m'⟩
   .grind
   .rw[hx]at h hF;rw[hF (A.mono (A.K.refl _) h)]
 .rfl
 .rfl
mutual
theorem xea:∀(e:Ex) (s:MS),ok (er (mg C e s).1) (mg C e s).2->mg D e s=mg C e s
 | .mk op n t args,s,h=>by
  have hL:=xrz args s;rw[mg]at h;rw[mg,mg];by_cases h1:op=1
  .grind
  by_cases h2:op=2
  .grind
  by_cases h3:op=3
  .grind
  simp only[h1,h2,h3,if_false]at h|-;rcases hx:pa C args s with⟨z|l,m'⟩
  .rw[hx]at h hL;rw[hL h]
  .rw[hx]at h hL;rw[hL (A.mono (xpe A.K _ _ _) h)];exact jdk A op l m' h
theorem xrz:∀(l:List Ex) (s:MS),ok (er (pa C l s).1) (pa C l s).2->pa D l s=pa C l s
 | [],s,_=>by rw[pa,pa]
 |e::l,s,h=>by
  have hE:=xea e s;rw[pa]at h;rw[pa,pa];rcases hx:mg C e s with⟨z|v,m'⟩
  .rw[hx]at h hE;rw[hE h]
  .rw[hx]at h hE;simp only at h|-;have hL:=xrz l m';have hK:=xjd A.K l m';rcases hy:pa C l m' with⟨z|r,lh⟩
   .rw[hy]at h hL hK;rw[hE (A.mono hK h)];simp only;rw[hL h]
   .rw[hy]at h hL hK;rw[hE (A.mono hK h)];simp only;rw[hL h]
end
theorem xo4{body body':MS->Except Stop Unit×MS}{name:ig}{b:Int}(hk:∀s,P s (body s).2)(hb:∀s,ok (er (body s).1) (body s).2->body' s=body s):∀(f:Nat) (i:Int) (s:MS),ok (er (q8 body name b f i s).1) (q8 body name b f i s).2->q8 body' name b f i s=q8 body name b f i s
 | 0,i,s,_=>by rw[q8,q8]
 |f+1,i,s,h=>by
  rw[q8]at h;rw[q8,q8];by_cases hi:i<b
  .simp only[hi,if_true]at h|-;rcases hT:wv s with⟨z|u,m'⟩
   .rfl
   .rw[hT]at h;simp only at h|-;have hB:=hb { m' with vars:=lx m'.vars name (vI i) };rcases hx:body { m' with vars:=lx m'.vars name (vI i) }with⟨z|u,lh⟩
    .grind
    .rw[hx]at h hB;simp only at h|-;rw[hB (A.mono (xcn A.K hk _ _ _) h)];exact xo4 hk hb f _ _ h
  .grind
mutual
theorem je8:∀(t:St) (s:MS),ok (er (r7 C t s).1) (r7 C t s).2->r7 D t s=r7 C t s
 | .mk op name mx a b body els,s,h=>by
  have hE:=xea A a s;rw[r7]at h;rw[r7,r7];by_cases h1:op=1\/op=2
  .simp only[h1,if_true]at h|-;rcases hx:mg C a s with⟨z|v,m'⟩
   .rw[hx]at h hE;rw[hE h]
   .rw[hx]at h hE;rw[hE (A.mono (A.K.vars _ _ _) h)]
  simp only[h1,if_false]at h|-;by_cases h3:op=3
  .simp only[h3,if_true]at h|-;rcases hx:mg C a s with⟨z|v,m'⟩
   .rw[hx]at h hE;rw[hE h]
   .rw[hx]at h hE;simp only at h|-;have m9:=xea A b m';have hK:=qyl A.K b m';rcases hy:mg C b m' with⟨z|w,lh⟩
    .rw[hy]at h m9 hK;rw[hE (A.mono hK h)];simp only;rw[m9 h]
    .rw[hy]at h m9 hK;simp only at h|-;split at h
     .rename_i hc;have h0:=A.mono (A.K.store v.s w lh) h;rw[hE (A.mono hK h0)];simp only;rw[m9 h0];simp only[hc,and_self,if_true];exact A.store v.s w lh h
     .rename_i hc;have h0:=A.mono (A.K.refl _) h;rw[hE (A.mono hK h0)];simp only;rw[m9 h0];simp only[hc,if_false]
  simp only[h3,if_false]at h|-;by_cases h4:op=4
  .simp only[h4,if_true]at h|-;rcases hx:mg C a s with⟨z|v,m'⟩
   .rw[hx]at h hE;rw[hE h]
   .rw[hx]at h hE;simp only at h|-;split at h
    .rename_i hc;rw[hE (A.mono (A.K.store v.s V.nil m') h)];simp only[hc,if_true];exact A.store v.s V.nil m' h
    .rename_i hc;rw[hE (A.mono (A.K.refl _) h)];simp only[hc,if_false]
  simp only[h4,if_false]at h|-;by_cases h5:op=5
  .simp only[h5,if_true]at h|-;rcases hx:mg C a s with⟨z|v,m'⟩
   .rw[hx]at h hE;rw[hE h]
   .rw[hx]at h hE;simp only at h|-;split at h
    .rename_i hc;split at h
     .rename_i hn;rw[hE (A.mono (qsd A.K body m') h)];simp only[hc,hn,if_true];exact xao body m' h
     .rename_i hn;rw[hE (A.mono (qsd A.K els m') h)];simp only[hc,hn,if_true,if_false];exact xao els m' h
    .rename_i hc;rw[hE (A.mono (A.K.refl _) h)];simp only[hc,if_false]
  simp only[h5,if_false]at h|-;by_cases h6:op=6
  .simp only[h6,if_true]at h|-;rcases hx:mg C a s with⟨z|v,m'⟩
   .rw[hx]at h hE;rw[hE h]
   .rw[hx]at h hE;simp only at h|-;have m9:=xea A b m';have hK:=qyl A.K b m';rcases hy:mg C b m' with⟨z|w,lh⟩
    .rw[hy]at h m9 hK;rw[hE (A.mono hK h)];simp only;rw[m9 h]
    .rw[hy]at h m9 hK;simp only at h|-;split at h
     .rename_i hc;split at h
      .rename_i ht;have h0:=A.mono (A.K.refl _) h;rw[hE (A.mono hK h0)];simp only;rw[m9 h0];simp only[hc,ht,and_self,if_true]
      .rename_i ht;have h0:=A.mono (xcn A.K (λs=>qsd A.K body s) _ _ _) h;rw[hE (A.mono hK h0)];simp only;rw[m9 h0];simp only[hc,ht,and_self,if_true,if_false];exact xo4 A (λs=>qsd A.K body s) (λs=>xao body s) _ _ _ h
     .rename_i hc;have h0:=A.mono (A.K.refl _) h;rw[hE (A.mono hK h0)];simp only;rw[m9 h0];simp only[hc,if_false]
  simp only[h6,if_false]at h|-;by_cases h7:op=7
  .simp only[h7,if_true]at h|-;rcases hx:mg C a s with⟨z|v,m'⟩
   .rw[hx]at h hE;rw[hE h]
   .rw[hx]at h hE;simp only at h|-;split at h
    .rename_i hc;rw[hE (A.mono (A.K.emit v m') h)]
    .rename_i hc;rw[hE (A.mono (A.K.refl _) h)]
  simp only[h7,if_false]
theorem xao:∀(l:List St) (s:MS),ok (er (mc C l s).1) (mc C l s).2->mc D l s=mc C l s
 | [],s,_=>by rw[mc,mc]
 |t::l,s,h=>by
  rw[mc]at h;rw[mc,mc];rcases hT:wv s with⟨z|u,m'⟩
  .rfl
  .rw[hT]at h;simp only at h|-;have hS:=je8 t m';rcases hx:r7 C t m' with⟨z|u,lh⟩
   .grind
   .rw[hx]at h hS;simp only at h|-;rw[hS (A.mono (qsd A.K l lh) h)];exact xao l lh h
end
end
theorem xbd{l:List ig}{k x:ig}:x∈yv l k↔x=k\/x∈l:=by grind[yv,cv,gn]
def Grow(s t:MS):Prop:=(∀k∈s.reads,k∈t.reads)/\(∀k∈s.puts,k∈t.puts)/\s.steps<=t.steps
theorem Grow.refl(s:MS):Grow s s:=⟨λ_ h=>h,λ_ h=>h,cn _⟩
theorem xyq(C:Cfg):Keeps C Grow where
 refl:=Grow.refl
 trans:=λh g=>⟨λk hk=>g.1 k (h.1 k hk),λk hk=>g.2.1 k (h.2.1 k hk),dv h.2.2 g.2.2⟩
 fetch:=λk s=>by
  unfold um;split
  .exact Grow.refl _
  split
  .exact Grow.refl _
  split
  .exact Grow.refl _
  .exact⟨λx hx=>xbd.2 (.inr hx),λ_ h=>h,cn _⟩
 store:=λk v s=>by
  unfold tv;split
  .exact Grow.refl _
  split
  .exact Grow.refl _
  .exact⟨λ_ h=>h,λx hx=>xbd.2 (.inr hx),cn _⟩
 emit:=λv s=>by
  unfold yx;split
  .exact Grow.refl _
  .exact⟨λ_ h=>h,λ_ h=>h,cn _⟩
 tick:=λs=>⟨λ_ h=>h,λ_ h=>h,qih⟩
 vars:=λs n v=>⟨λ_ h=>h,λ_ h=>h,cn _⟩
theorem jis(C:Cfg)(st:List Pr):Alike C { C with state:=st } Grow (λ_ m=>∀k∈m.reads,jw C.state k=jw st k) where
 K:=xyq C
 fmt:=rfl
 mono:=λh g k hk=>g k (h.1 k hk)
 fetch:=λk s h=>by
  unfold um at h|-;split
  .rfl
  split
  .rfl
  split
  .rfl
  .rename_i h1 _ h2 h3;simp only[h1,if_false,h2,h3]at h;have:=h k (xbd.2 (.inl rfl));simp only[this]
 store:=λk v s _=>rfl
structure Fit(C:Cfg)(s t:MS):Prop where
 rd:∀k∈t.reads,k∈s.reads\/(sw k=true/\(C.all=true\/l8 C.rd k=true))
 pt:∀k∈t.puts,k∈s.puts\/(sw k=true/\(C.all=true\/l8 C.wr k=true))
 ar:kg s.reads->kg t.reads
 ap:kg s.puts->kg t.puts
theorem Fit.refl(C:Cfg)(s:MS):Fit C s s:=⟨λ_ h=>.inl h,λ_ h=>.inl h,id,id⟩
theorem jj1(C:Cfg):Keeps C (Fit C) where
 refl:=Fit.refl C
 trans:=λh g=>⟨λk hk=>(g.rd k hk).elim (h.rd k) .inr,λk hk=>(g.pt k hk).elim (h.pt k) .inr,λa=>g.ar (h.ar a),λa=>g.ap (h.ap a)⟩
 fetch:=λk s=>by
  unfold um;split
  .exact Fit.refl C _
  split
  .exact Fit.refl C _
  split
  .exact Fit.refl C _
  .rename_i h1 _ _ h3;refine⟨λx hx=>?_,λ_ h=>.inl h,λa=>qz7 a k,id⟩;rcases xbd.1 hx with rfl|hx
   .grind
   .grind
 store:=λk v s=>by
  unfold tv;split
  .exact Fit.refl C _
  split
  .exact Fit.refl C _
  .rename_i h1 h3;refine⟨λ_ h=>.inl h,λx hx=>?_,id,λa=>qz7 a k⟩;rcases xbd.1 hx with rfl|hx
   .grind
   .grind
 emit:=λv s=>by
  unfold yx;split
  .exact Fit.refl C _
  .exact⟨λ_ h=>.inl h,λ_ h=>.inl h,id,id⟩
 tick:=λs=>⟨λ_ h=>.inl h,λ_ h=>.inl h,id,id⟩
 vars:=λs n v=>⟨λ_ h=>.inl h,λ_ h=>.inl h,id,id⟩
def qp4(C:Cfg)(z:Stop):Prop:=(∃c,z=ab c)\/∃k,z=rst k/\C.all=false/\sw k=true/\(l8 C.rd k=false\/l8 C.wr k=false)
theorem xt1{r:Int×Int}{z:Stop}(h:ve r=.error z):∃c,z=ab c:=by grind[ve]
theorem xh9{s:ig}{z:Stop}(h:qmv s=.error z):∃c,z=ab c:=by grind[qmv]
theorem jkw{op:Int}{a b:V}{z:Stop}(h:ug op a b=.error z):∃c,z=ab c:=by grind[ug,qlx,que,xt1,xh9]
theorem xyg{op:Int}{v:V}{z:Stop}(h:qwk op v=.error z):∃c,z=ab c:=by grind[qwk,xh9]
section
variable {C:Cfg}
theorem jiq{k:ig}{s t:MS}{z:Stop}(h:um C k s=(.error z,t)):qp4 C z:=by
 unfold um at h;split at h
 .cases h;exact .inl ⟨_,rfl⟩
 split at h
 .cases h
 split at h
 .rename_i h1 _ _ h3;cases h;exact .inr ⟨k,rfl,h3.1,bw,.inl h3.2⟩
 .cases h
theorem xn6{k:ig}{v:V}{s t:MS}{z:Stop}(h:tv C k v s=(.error z,t)):qp4 C z:=by
 unfold tv at h;split at h
 .cases h;exact .inl ⟨_,rfl⟩
 split at h
 .rename_i h1 h3;cases h;exact .inr ⟨k,rfl,h3.1,bw,.inr h3.2⟩
 .cases h
theorem jhn{v:V}{s t:MS}{z:Stop}(h:yx v s=(.error z,t)):qp4 C z:=by
 unfold yx at h;split at h
 .cases h;exact .inl ⟨_,rfl⟩
 .cases h
theorem xqi{s t:MS}{z:Stop}(h:wv s=(.error z,t)):qp4 C z:=by
 unfold wv at h;split at h
 .cases h;exact .inl ⟨_,rfl⟩
 .cases h
theorem jga{op:Int}{l:List V}{s t:MS}{z:Stop}(h:vz C op l s=(.error z,t)):qp4 C z:=by
 have hx:∀{x:EV} {u:MS},(x,u)=((.error z,t):EV×MS)->x=.error z:=λh=>congrArg Prod.fst h;unfold vz at h;split at h
 .rename_i a;unfold unS at h;split at h
  .have h:=hx h;split at h
   .exact .inl (xt1 h)
   .cases h;exact .inl ⟨_,rfl⟩
  split at h
  .have h:=hx h;split at h<;>cases h;exact .inl ⟨_,rfl⟩
  split at h
  .have h:=hx h;split at h
   .exact .inl (xh9 h)
   .cases h;exact .inl ⟨_,rfl⟩
  split at h
  .have h:=hx h;split at h<;>cases h;exact .inl ⟨_,rfl⟩
  split at h
  .cases h;exact .inl ⟨_,rfl⟩
  split at h
  .grind[jiq]
  .exact .inl (xyg (hx h))
 .exact .inl (jkw (hx h))
 .cases h;exact .inl ⟨_,rfl⟩
mutual
theorem qt2:∀(e:Ex) (s t:MS) (z:Stop),mg C e s=(.error z,t)->qp4 C z
 | .mk op n x args,s,t,z,h=>by
  rw[mg]at h;split at h
  .cases h
  split at h
  .cases h
  split at h
  .have h:=congrArg Prod.fst h;simp only at h;split at h<;>cases h;exact .inl ⟨_,rfl⟩
  split at h
  .rename_i hL;cases h;exact xrs args s _ _ hL
  .exact jga h
theorem xrs:∀(l:List Ex) (s t:MS) (z:Stop),pa C l s=(.error z,t)->qp4 C z
 | [],s,t,z,h=>by rw[pa]at h;cases h
 |e::l,s,t,z,h=>by
  rw[pa]at h;split at h
  .rename_i hE;cases h;exact qt2 e s _ _ hE
  .split at h
   .rename_i hL;cases h;exact xrs l _ _ _ hL
   .cases h
end
theorem xof{body:MS->Except Stop Unit×MS}{name:ig}{b:Int}(hb:∀s t z,body s=(.error z,t)->qp4 C z):∀(f:Nat) (i:Int) (s t:MS) (z:Stop),q8 body name b f i s=(.error z,t)->qp4 C z
 | 0,i,s,t,z,h=>by rw[q8]at h;cases h
 |f+1,i,s,t,z,h=>by
  rw[q8]at h;split at h
  .split at h
   .grind[xqi]
   .split at h
    .grind
    .exact xof hb f _ _ _ _ h
  .cases h
mutual
theorem xup:∀(x:St) (s t:MS) (z:Stop),r7 C x s=(.error z,t)->qp4 C z
 | .mk op name mx a b body els,s,t,z,h=>by
  rw[r7]at h;split at h
  .grind[qt2]
  split at h
  .split at h
   .grind[qt2]
   .split at h
    .grind[qt2]
    .split at h
     .exact xn6 h
     .cases h;exact .inl ⟨_,rfl⟩
  split at h
  .split at h
   .grind[qt2]
   .split at h
    .exact xn6 h
    .cases h;exact .inl ⟨_,rfl⟩
  split at h
  .split at h
   .grind[qt2]
   .split at h
    .split at h
     .exact qz0 body _ _ _ h
     .exact qz0 els _ _ _ h
    .cases h;exact .inl ⟨_,rfl⟩
  split at h
  .split at h
   .grind[qt2]
   .split at h
    .grind[qt2]
    .split at h
     .split at h
      .cases h;exact .inl ⟨_,rfl⟩
      .exact xof (λs t z h=>qz0 body s t z h) _ _ _ _ _ h
     .cases h;exact .inl ⟨_,rfl⟩
  split at h
  .split at h
   .grind[qt2]
   .split at h
    .exact jhn h
    .cases h;exact .inl ⟨_,rfl⟩
  split at h
  .cases h;exact .inl ⟨_,rfl⟩
  .cases h
theorem qz0:∀(l:List St) (s t:MS) (z:Stop),mc C l s=(.error z,t)->qp4 C z
 | [],s,t,z,h=>by rw[mc]at h;cases h
 |x::l,s,t,z,h=>by
  rw[mc]at h;split at h
  .grind[xqi]
  .split at h
   .rename_i hS;cases h;exact xup x _ _ _ hS
   .exact qz0 l _ _ _ h
end
end
mutual
def gE:Ex->Nat
 | .mk op _ _ args=>(if op=22\/op=23\/op=24 then 1 else 0)+gL args
def gL:List Ex->Nat
 | []=>0
 |e::l=>gE e+gL l
end
structure N4 where
 st:Nat
 ge:Nat
 pu:Nat
 em:Nat
def N4.add(a b:N4):N4:=⟨a.st+b.st,a.ge+b.ge,a.pu+b.pu,a.em+b.em⟩
def N4.mx(a b:N4):N4:=⟨max a.st b.st,max a.ge b.ge,max a.pu b.pu,max a.em b.em⟩
def N4.mul(n:Nat)(a:N4):N4:=⟨n * a.st,n * a.ge,n * a.pu,n * a.em⟩
def N4.one:N4:=⟨1,0,0,0⟩
def N4.zero:N4:=⟨0,0,0,0⟩
def n0(op mx:Int)(a b:Ex):N4 :=
 ⟨if op=6 then mx.toNat else 0,(if op=8 then 0 else gE a)+(if op=3\/op=6 then gE b else 0),if op=3\/op=4 then 1 else 0,if op=7 then 1 else 0⟩
mutual
def nS:St->N4
 | .mk op _ mx a b body els=>(n0 op mx a b).add (if op=5 then(nL body).mx (nL els)else if op=6 then(nL body).mul mx.toNat else .zero)
def nL:List St->N4
 | []=>.zero
 |t::l=>(N4.one.add (nS t)).add (nL l)
end
theorem jc5(t:St):nS t=(n0 t.op t.max t.a t.b).add (if t.op=5 then(nL t.body).mx (nL t.els)else if t.op=6 then(nL t.body).mul t.max.toNat else .zero):=by cases t;rw[nS];rfl
def wg(x:N4):Cnt:=⟨mn x.st 16385,mn x.ge 16385,mn x.pu 16385,mn x.em 16385⟩
theorem xbe{n:Int}(h0:-9223372036854775808<=n)(h1:n<9223372036854775808):pi n=n:=qed h0 h1
theorem xl0:∀(l:List Ex) (n:Int),(∀e∈l,xz e=mn (gE e) 16385)->0<=n->n+16385 * l.length<4611686018427387904->mn (wh l n) 16385=mn (n+gL l) 16385
 | [],n,_,_,_=>by rw[wh,gL];simp
 |e::l,n,h,h0,h1=>by
  have he:=h e ac;have hb:0<=xz e/\xz e<=16385:=by grind[mn]
  have hw:pi (n+xz e)=n+xz e:=xbe aa aa;rw[wh,hw,xl0 l (n+xz e) (λx hx=>h x bu) aa af,gL,he];unfold mn
  repeat' split
  all_goals omega
theorem jbr(op:Int):arity op<=2:=by grind[arity]
theorem jg0{e:Ex}{d:Nat}(h:py e d=0):e.args.length<=2:=by
 have h1:=xbk h;have h2:=jbr e.op;omega
mutual
theorem xiw:∀(e:Ex) (d:Nat),py e d=0->xz e=mn (gE e) 16385
 | .mk op n s args,d,h=>by
  have hl:=jg0 h;simp only[Ex.args]at hl;have ha:=xo1 args (d+1) (by
   rw[py]at h;split at h
   .exact h
   .contradiction)
  rw[xz,gE,xl0 args _ ha aa aa];congr 1;split<;>simp
theorem xo1:∀(l:List Ex) (d:Nat),qk4 l d=0->∀e∈l,xz e=mn (gE e) 16385
 | [],d,_=>by simp
 |e::l,d,h=>by
  rw[qk4]at h;split at h
  .rename_i h0;have h1:=xiw e d h0;have h2:=xo1 l d h;intro x hx;rcases c0.1 hx with rfl|hx
   .exact h1
   .grind
  .omega
end
theorem xod(n:Nat):0<=mn n 16385/\mn n 16385<=16385:=by grind[mn]
theorem xh2(a b:Nat):mn (pi (mn a 16385+mn b 16385)) 16385=mn (a+b:Nat) 16385:=by grind[xbe,mn,xod]
theorem xu5(a b:Nat):mx (mn a 16385) (mn b 16385)=mn (max a b:Nat) 16385:=by grind[mn,mx]
theorem xwb{n:Int}(h1:1<=n)(h2:n<=16)(a:Nat):mn (pi (mn a 16385 * n)) 16385=mn (n.toNat * a:Nat) 16385:=by
 have hb:=xod a;obtain⟨k,rfl⟩:∃k:Nat,n=k:=⟨n.toNat,aa⟩
 have hk:(mn a 16385 * (k:Int))<=16385 * 16:=by
  have:mn a 16385 * (k:Int)<=16385 * (k:Int):=Int.mul_le_mul_of_nonneg_right hb.2 aa;omega
 have h0:0<=mn a 16385 * (k:Int):=Int.mul_nonneg hb.1 aa;rw[xbe aa aa];simp only[qke];by_cases ha:a<=16385
 .grind[Nat.mul_comm,mn]
 .have e1:mn a 16385=16385:=by unfold mn;split<;>omega
  have h3:a<=k * a:=Nat.le_mul_of_pos_left a aa;rw[e1];unfold mn
  repeat' split
  all_goals omega
theorem xkh(a b:N4):(wg a).plus (wg b)=wg (a.add b):=by simp[wg,Cnt.plus,N4.add,xh2]
theorem jcb(a b:N4):(wg a).larger (wg b)=wg (a.mx b):=by simp[wg,Cnt.larger,N4.mx,xu5]
theorem jax{n:Int}(h1:1<=n)(h2:n<=16)(a:N4):(wg a).times n=wg (a.mul n.toNat):=by simp_all[wg,Cnt.times,N4.mul,xwb]
theorem xhj{t:St}{d:Nat}(h:okS t d)(h6:t.op=6):1<=t.max/\t.max<=16:=by
 have h1:=((qso t d).1 h).1;unfold qc8 qve at h1;grind
theorem jiy{n:Nat}(h:n<=16385):mn n 16385=n:=by grind[mn]
theorem jfv{t:St}{d:Nat}(h:okS t d):qmt t=wg (N4.one.add (n0 t.op t.max t.a t.b)):=by
 have hA:t.op≠8->xz t.a=mn (gE t.a) 16385:=λk=>xiw _ _ (qy7 h k);have hB:t.op=3\/t.op=6->xz t.b=mn (gE t.b) 16385:=λk=>xiw _ _ (qz2 h k);unfold qmt wg N4.add N4.one n0;simp only;have m0:mn 0 16385=0:=ba;have m1:mn 1 16385=1:=ba;by_cases h3:t.op=3
 .grind[xh2]
 by_cases h4:t.op=4
 .grind
 by_cases h7:t.op=7
 .grind
 by_cases h6:t.op=6
 .have h8:¬t.op=8:=aa;have hm:=xhj h h6;rw[if_neg h3,if_neg h4,if_neg h7,if_pos h6,if_neg h8,hA h8,hB (.inr h6),xh2,xbe aa aa,jiy (n:=1+_) af];simp[h6,m0,m1];omega
 rw[if_neg h3,if_neg h4,if_neg h7,if_neg h6];by_cases h8:t.op=8
 .grind
 .grind
theorem xgq{l:List St}:∀(x:N4),(∀t∈l,qxi t=wg (N4.one.add (nS t)))->qrm l (wg x)=wg (x.add (nL l)):=by
 induction l with
 |nil=>intro x _;rw[qrm,nL];rfl
 |cons t l ih =>
  intro x h;rw[qrm,h t ac,xkh,ih _ (λy hy=>h y ck),nL];simp only[N4.add,Nat.add_assoc]
theorem xhw:wg .zero=⟨0,0,0,0⟩:=rfl
theorem zero_add(x:N4):N4.zero.add x=x:=by simp[N4.zero,N4.add]
theorem xw8(x:N4):x.add N4.zero=x:=by simp[N4.zero,N4.add]
theorem add_assoc(x y z:N4):(x.add y).add z=x.add (y.add z):=by simp[N4.add,Nat.add_assoc]
theorem xgo:∀(t:St) (d:Nat),okS t d->qxi t=wg (N4.one.add (nS t))
 | .mk op name mx a b body els,d,h=>by
  have h1:=(qso _ _).1 h;have hb:sf body=wg (nL body):=by
   have:=xgq (l:=body) .zero λx hx=>by
    have:=gb (show x∈body from hx);exact xgo x (d+1) (h1.2.1 x hx)
   rw[xhw,zero_add]at this;exact this
  have he:sf els=wg (nL els):=by
   have:=xgq (l:=els) .zero λx hx=>by
    have:=gb (show x∈els from hx);exact xgo x (d+1) (h1.2.2 x hx)
   rw[xhw,zero_add]at this;exact this
  rw[xtv,jc5,jfv h];simp only[St.body,St.els]at hb he|-;by_cases h5:(St.mk op name mx a b body els).op=5
  .grind[jcb,xkh,add_assoc]
  by_cases h6:(St.mk op name mx a b body els).op=6
  .grind[jax,xkh,add_assoc,xhj]
  .grind[xw8]
termination_by t=>SizeOf.sizeOf t
decreasing_by
 all_goals
  simp only[St.mk.sizeOf_spec];omega
theorem jkx{l:List St}{d:Nat}(h:okL l d):sf l=wg (nL l):=by
 have:=xgq (l:=l) .zero λx hx=>xgo x d (h x hx);rw[xhw,zero_add]at this;exact this
structure Dl(s t:MS)(n:N4):Prop where
 st:t.steps<=s.steps+n.st
 ge:t.reads.length<=s.reads.length+n.ge
 pu:t.puts.length<=s.puts.length+n.pu
 em:t.out.length<=s.out.length+n.em
theorem Dl.refl(s:MS)(n:N4):Dl s s n:=⟨aa,aa,aa,aa⟩
theorem Dl.trans{s t u:MS}{m n:N4}(h:Dl s t m)(g:Dl t u n):Dl s u (m.add n):=by
 obtain⟨h1,h2,h3,h4⟩:=h;obtain⟨g1,g2,g3,g4⟩:=g;exact⟨qgp,qgp,qgp,qgp⟩
theorem Dl.mono{s t:MS}{m n:N4}(h:Dl s t m)(h1:m.st<=n.st)(h2:m.ge<=n.ge)(h3:m.pu<=n.pu)(h4:m.em<=n.em):Dl s t n:=by
 obtain⟨g1,g2,g3,g4⟩:=h;exact⟨aa,aa,aa,aa⟩
section
variable {C:Cfg}
theorem jbg(k:ig)(s:MS):Dl s (um C k s).2 ⟨0,1,0,0⟩:=by
 unfold um;split
 .exact Dl.refl _ _
 split
 .exact Dl.refl _ _
 split
 .exact Dl.refl _ _
 .exact⟨ac,xal _ _,ac,ac⟩
theorem xs8(k:ig)(v:V)(s:MS):Dl s (tv C k v s).2 ⟨0,0,1,0⟩:=by
 unfold tv;split
 .exact Dl.refl _ _
 split
 .exact Dl.refl _ _
 .exact⟨ac,ac,xal _ _,ac⟩
theorem xy7(v:V)(s:MS):Dl s (yx v s).2 ⟨0,0,0,1⟩:=by
 unfold yx;split
 .exact Dl.refl _ _
 .exact⟨ac,ac,ac,ac⟩
theorem xr2(s:MS):Dl s (wv s).2 .one:=⟨by simp[wv,N4.one],qih,qih,qih⟩
theorem xtk(s:MS)(v:List (ig×V))(n:N4):Dl s { s with vars:=v } n:=⟨ac,ac,ac,ac⟩
theorem xhp:∀{l:List Ex} {s t:MS} {r:List V},pa C l s=(.ok r,t)->r.length=l.length
 | [],s,t,r,h=>by rw[pa]at h;cases h;rfl
 |e::l,s,t,r,h=>by
  rw[pa]at h;split at h
  .cases h
  .split at h
   .cases h
   .rename_i h2;cases h;simp[xhp h2]
theorem jkf{op:Int}{l:List V}(s:MS)(h:(l.length:Int)=arity op):Dl s (vz C op l s).2 ⟨0,if op=22\/op=23\/op=24 then 1 else 0,0,0⟩:=by
 unfold vz;split
 .grind[arity,unS,Dl.refl,jbg]
 .exact Dl.refl _ _
 .exact Dl.refl _ _
mutual
theorem qtu:∀(e:Ex) (d:Nat) (s:MS),py e d=0->Dl s (mg C e s).2 ⟨0,gE e,0,0⟩
 | .mk op n t args,d,s,h=>by
  have har:=xbk h;simp only[Ex.args,Ex.op]at har;have hL:=xto args (d+1) s (by
   rw[py]at h;split at h
   .exact h
   .contradiction)
  rw[mg,gE];split
  .exact Dl.refl _ _
  split
  .exact Dl.refl _ _
  split
  .exact Dl.refl _ _
  split
  .rename_i h1;rw[h1]at hL;exact hL.mono ac ac ac ac
  .rename_i h1;rw[h1]at hL;have hl:=xhp h1;exact(hL.trans (jkf _ aa)).mono bf bh bf bf
theorem xto:∀(l:List Ex) (d:Nat) (s:MS),qk4 l d=0->Dl s (pa C l s).2 ⟨0,gL l,0,0⟩
 | [],d,s,_=>by rw[pa];exact Dl.refl _ _
 |e::l,d,s,h=>by
  rw[qk4]at h;split at h
  .rename_i h0;have hE:=qtu e d s h0;rw[pa,gL];split
   .rename_i h1;rw[h1]at hE;exact hE.mono ac ac ac ac
   .rename_i m' h1;rw[h1]at hE;have hL:=xto l d m' h;split
    .rename_i h2;rw[h2]at hL;exact hE.trans hL
    .rename_i h2;rw[h2]at hL;exact hE.trans hL
  .omega
end
theorem xot{body:MS->Except Stop Unit×MS}{name:ig}{b:Int}{x:N4}(hb64:i64 b)(hb:∀s,Inv 8192 1 s->Dl s (body s).2 x)(hI:∀s u t,Inv 8192 1 s->body s=(.ok u,t)->Inv 0 0 t) :
  ∀(n f:Nat) (i:Int) (s:MS),i64 i->b - i<=n->Inv 0 0 s->Dl s (q8 body name b f i s).2 ((N4.one.add x).mul n)
 |_,0,i,s,_,_,_=>by rw[q8];exact Dl.refl _ _
 | 0,f+1,i,s,hi,hn,h=>by rw[q8,if_neg aa];exact Dl.refl _ _
 |n+1,f+1,i,s,hi,hn,h=>by
  have hT:=xr2 s;have e:∀y:N4,y.mul (n+1)=y.add (y.mul n):=λy=>by simp[N4.mul,N4.add,Nat.succ_mul,Nat.add_comm]
  rw[q8,e];split
  .rename_i hib;split
   .rename_i h1;rw[h1]at hT;exact hT.mono (by grind[N4.add,N4.one]) qig qig qig
   .rename_i m' h1;rw[h1]at hT;have hI1:=(h.tick h1).vars (qvg hi) name;have hV:=xtk m' (lx m'.vars name (vI i)) .zero;have hB:=hb _ hI1;split
    .rename_i h2;rw[h2]at hB;exact(hT.trans (hV.trans hB)).mono qe0 qe0 qe0 qe0
    .rename_i lh h2;have s8:=hI _ _ _ hI1 h2;rw[h2]at hB;have hw:pi (i+1)=i+1:=xbe (by have:=hi.1;omega) (by have:=hb64.2;omega);have hR:=xot (name:=name) hb64 hb hI n f (i+1) lh ⟨by have:=hi.1;omega,by have:=hb64.2;omega⟩ aa s8;rw[hw];exact((hT.trans (hV.trans hB)).trans hR).mono qe0 qe0 qe0 qe0
  .exact Dl.refl _ _
theorem few{a b mx:Int}(ha:i64 a)(hb:i64 b)(h1:1<=mx)(h2:mx<=16)(h:¬qx5 a b mx):b - a<=mx.toNat:=by
 unfold qx5 at h;obtain⟨a1,a2⟩:=ha;obtain⟨b1,b2⟩:=hb;simp only[IntKind.wrap,IntKind.bits,IntKind.signed]at h;simp at h;omega
end
section
variable {C:Cfg}
mutual
theorem ja8(hC:u5 C):∀(t:St) (d:Nat) (s:MS),okS t d->goS t->Inv 8192 1 s->Dl s (r7 C t s).2 (nS t)
 | .mk op name mx a b body els,d,s,hO,hG,h=>by
  have hG':=(qye _).1 hG;have hO':=(qso _ _).1 hO;have oA:=λk=>qy7 hO k;have oB:=λk=>qz2 hO k;have oM:=λk=>xhj hO k;simp only[St.op,St.a,St.b,St.body,St.els,St.max]at hG' hO' oA oB oM;obtain⟨hA,hB,vx,qpn⟩:=hG';obtain⟨_,xat,oels⟩:=hO';rw[r7,nS];by_cases h1:op=1\/op=2
  .simp only[h1,if_true];have h8:¬op=8:=aa;have hE:=qtu (C:=C) a 1 s (oA h8);have hx:gE a<=(n0 op mx a b).ge:=by grind[n0]
   split
   .rename_i hm;rw[hm]at hE;exact hE.mono ac bh ac ac
   .rename_i hm;rw[hm]at hE;exact(hE.trans (xtk _ _ .zero)).mono qic (by grind[N4.add,N4.zero]) qic qic
  simp only[h1,if_false];by_cases h3:op=3
  .simp only[h3,if_true];have hE:=qtu (C:=C) a 1 s (oA aa);have hx:(n0 3 mx a b).ge=gE a+gE b:=qga;have hy:(n0 3 mx a b).pu=1:=qga;split
   .rename_i hm;rw[hm]at hE;exact hE.mono ac bh ac ac
   .rename_i k m' hm;rw[hm]at hE;have m9:=qtu (C:=C) b 1 m' (oB aa);split
    .rename_i xv;rw[xv]at m9;exact(hE.trans m9).mono bf bh bf bf
    .rename_i v lh xv;rw[xv]at m9;split
     .exact((hE.trans m9).trans (xs8 k.s v lh)).mono bf bh bh bf
     .exact(hE.trans m9).mono bf bh bf bf
  simp only[h3,if_false];by_cases h4:op=4
  .simp only[h4,if_true];have hE:=qtu (C:=C) a 1 s (oA aa);have hx:(n0 4 mx a b).ge=gE a:=qga;have hy:(n0 4 mx a b).pu=1:=qga;split
   .rename_i hm;rw[hm]at hE;exact hE.mono ac bh ac ac
   .rename_i k m' hm;rw[hm]at hE;split
    .exact(hE.trans (xs8 k.s V.nil m')).mono bf bh bh bf
    .exact hE.mono ac bh ac ac
  simp only[h4,if_false];by_cases h5:op=5
  .simp only[h5,if_true];have h0:=h.eval hC (r:=4097) (hA aa);have hE:=qtu (C:=C) a 1 s (oA aa);have hx:(n0 5 mx a b).ge=gE a:=qga;split
   .rename_i hm;rw[hm]at hE;exact hE.mono ac bh ac ac
   .rename_i c m' hm;rw[hm]at hE h0;split
    .split
     .have hB:=qyv hC body (d+1) m' xat vx (h0.1.mono aa aa);have m1:=Nat.le_max_left (nL body).st (nL els).st;have m2:=Nat.le_max_left (nL body).ge (nL els).ge;have m3:=Nat.le_max_left (nL body).pu (nL els).pu;have m4:=Nat.le_max_left (nL body).em (nL els).em;exact(hE.trans hB).mono qe8 qe8 qe8 qe8
     .have hB:=qyv hC els (d+1) m' oels qpn (h0.1.mono aa aa);have m1:=Nat.le_max_right (nL body).st (nL els).st;have m2:=Nat.le_max_right (nL body).ge (nL els).ge;have m3:=Nat.le_max_right (nL body).pu (nL els).pu;have m4:=Nat.le_max_right (nL body).em (nL els).em;exact(hE.trans hB).mono qe8 qe8 qe8 qe8
    .exact hE.mono ac bh ac ac
  simp only[h5,if_false];by_cases h6:op=6
  .simp only[h6,if_true];have h0:=h.eval hC (r:=4097) (hA aa);have hE:=qtu (C:=C) a 1 s (oA aa);have hx:(n0 6 mx a b).ge=gE a+gE b:=qga;have hy:(n0 6 mx a b).st=mx.toNat:=qga;have hM:=oM h6;split
   .rename_i hm;rw[hm]at hE;exact hE.mono ac bh ac ac
   .rename_i u m' hm;rw[hm]at hE h0;have m9:=qtu (C:=C) b 1 m' (oB aa);have h2:=h0.1.eval hC (r:=2) (hB aa);split
    .rename_i xv;rw[xv]at m9;exact(hE.trans m9).mono bf bh bf bf
    .rename_i v lh xv;rw[xv]at m9 h2;split
     .split
      .exact(hE.trans m9).mono bf bh bf bf
      .rename_i ht;have hu:=(h0.2 _ rfl).1;have hv:=(h2.2 _ rfl).1;have hn:=few hu hv hM.1 hM.2 ht;have hl:=xot (name:=name) (body:=λx=>mc C body x) hv (λs hs=>qyv hC body (d+1) s xat vx (hs.mono aa aa)) (λs u t hs hg=>qvo hC body s u t vx (hs.mono aa aa) hg) mx.toNat 16386 u.n lh hu hn (h2.1.mono aa aa);have e1:(N4.one.add (nL body)).mul mx.toNat=⟨mx.toNat+mx.toNat * (nL body).st,mx.toNat * (nL body).ge,mx.toNat * (nL body).pu,mx.toNat * (nL body).em⟩:=by
        simp[N4.mul,N4.add,N4.one,Nat.mul_add]
       rw[e1]at hl;exact((hE.trans m9).trans hl).mono (by grind[N4.add,N4.mul]) (by grind[N4.add,N4.mul]) (by simp[N4.add,N4.mul]) (by simp[N4.add,N4.mul])
     .exact(hE.trans m9).mono bf bh bf bf
  simp only[h6,if_false];by_cases h7:op=7
  .simp only[h7,if_true];have hE:=qtu (C:=C) a 1 s (oA aa);have hx:(n0 7 mx a b).ge=gE a:=qga;have hy:(n0 7 mx a b).em=1:=qga;split
   .rename_i hm;rw[hm]at hE;exact hE.mono ac bh ac ac
   .rename_i v m' hm;rw[hm]at hE;split
    .exact(hE.trans (xy7 v m')).mono bf bh bf bh
    .exact hE.mono ac bh ac ac
  simp only[h7,if_false];split
  .exact Dl.refl _ _
  .exact Dl.refl _ _
theorem qyv(hC:u5 C):∀(l:List St) (d:Nat) (s:MS),okL l d->(∀x∈l,goS x)->Inv 0 0 s->Dl s (mc C l s).2 (nL l)
 | [],d,s,_,_,_=>by rw[mc];exact Dl.refl _ _
 |t::l,d,s,hO,hG,h=>by
  have hT:=xr2 s;rw[mc,nL];split
  .rename_i hm;rw[hm]at hT;exact hT.mono bh bh bh bh
  .rename_i m' hm;rw[hm]at hT;have hI:=h.tick hm;have hS:=ja8 hC t d m' (hO t ac) (hG t ac) hI;split
   .rename_i xv;rw[xv]at hS;exact(hT.trans hS).mono bf bf bf bf
   .rename_i lh xv;have s8:=xca hC t _ _ _ (hG t ac) hI xv;rw[xv]at hS;exact(hT.trans hS).trans (qyv hC l d lh (λx hx=>hO x bu) (λx hx=>hG x bu) s8)
end
end
end Go.Cw
