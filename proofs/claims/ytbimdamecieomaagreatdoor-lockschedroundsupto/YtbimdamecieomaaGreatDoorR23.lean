/- Part 23 of a proof. -/
import Derived.Test.YtbimdamecieomaaGreatDoorR22
set_option linter.all false
namespace Go.Cw
open Go Go.Abs
mutual
def gE:Ex→Nat
 | .mk op _ _ args=>(if op=22∨op=23∨op=24 then 1 else 0)+gL args
def gL:List Ex→Nat
 | []=>0
 |e::l=>gE e+gL l
end
theorem jg1(e:Ex):gE e=(if e.op=22∨e.op=23∨e.op=24 then 1 else 0)+gL e.args:=by cases e;rw[gE];rfl
structure N4 where
 st:Nat
 ge:Nat
 pu:Nat
 em:Nat
def N4.add(a b:N4):N4:=⟨a.st+b.st,a.ge+b.ge,a.pu+b.pu,a.em+b.em⟩
def N4.mx(a b:N4):N4:=⟨max a.st b.st,max a.ge b.ge,max a.pu b.pu,max a.em b.em⟩
def N4.mul(n:Nat)(a:N4):N4:=⟨n * a.st,n * a.ge,n * a.pu,n * a.em⟩
def N4.one:N4:=⟨1,0,0,0⟩
def N4.zero:N4:=⟨0,0,0,0⟩
def n0(op mx:Int)(a b:Ex):N4 :=
 ⟨if op=6 then mx.toNat else 0,(if op=8 then 0 else gE a)+(if op=3∨op=6 then gE b else 0),if op=3∨op=4 then 1 else 0,if op=7 then 1 else 0⟩
mutual
def nS:St→N4
 | .mk op _ mx a b body els=>(n0 op mx a b).add (if op=5 then(nL body).mx (nL els)else if op=6 then(nL body).mul mx.toNat else .zero)
def nL:List St→N4
 | []=>.zero
 |t::l=>(N4.one.add (nS t)).add (nL l)
end
theorem xq7(t:St):nS t=(n0 t.op t.max t.a t.b).add (if t.op=5 then(nL t.body).mx (nL t.els)else if t.op=6 then(nL t.body).mul t.max.toNat else .zero):=by cases t;rw[nS];rfl
def rx(x:N4):Cnt:=⟨mn x.st 16385,mn x.ge 16385,mn x.pu 16385,mn x.em 16385⟩
theorem qrx{n:Int}(h0:-9223372036854775808≤n)(h1:n<9223372036854775808):jt n=n:=qe6 h0 h1
theorem xvr:∀(l:List Ex) (n:Int),(∀e∈l,xt e=mn (gE e) 16385)→0≤n→n+16385 * l.length<4611686018427387904→mn (w8 l n) 16385=mn (n+gL l) 16385
 | [],n,_,_,_=>by rw[w8,gL];simp
 |e::l,n,h,h0,h1=>by
  have he:=h e ae;have hb:0≤xt e∧xt e≤16385:=by rw[he];unfold mn;split<;>omega
  have hw:jt (n+xt e)=n+xt e:=qrx aa qga;rw[w8,hw,xvr l (n+xt e) (fun x hx=>h x bt) aa qga,gL,he];unfold mn
  repeat' split
  all_goals omega
theorem xly(op:Int):me op≤2:=by unfold me;repeat' split<;>omega
theorem jdj{e:Ex}{d:Nat}(h:mg e d=0):e.args.length≤2:=by
 have h1:=qez h;have h2:=xly e.op;omega
mutual
theorem xlm:∀(e:Ex) (d:Nat),mg e d=0→xt e=mn (gE e) 16385
 | .mk op n s args,d,h=>by
  have hl:=jdj h;simp only[Ex.args]at hl;have ha:=xuw args (d+1) (by
   rw[mg]at h;split at h
   ·exact h
   ·contradiction)
  rw[xt,gE,xvr args _ ha (by split<;>omega) (by split<;>omega)];congr 1;split<;>simp
theorem xuw:∀(l:List Ex) (d:Nat),vq l d=0→∀e∈l,xt e=mn (gE e) 16385
 | [],d,_=>by simp
 |e::l,d,h=>by
  rw[vq]at h;split at h
  ·rename_i h0;have h1:=xlm e d h0;have h2:=xuw l d h;intro x hx;rcases cw.1 hx with rfl|hx
   ·exact h1
   ·exact h2 x hx
  ·contradiction
end
theorem xh3(n:Nat):0≤mn n 16385∧mn n 16385≤16385:=qh8
theorem xaq(a b:Nat):mn (jt (mn a 16385+mn b 16385)) 16385=mn (a+b:Nat) 16385:=by
 have h1:=xh3 a;have h2:=xh3 b;rw[qrx aa aa];unfold mn
 repeat' split
 all_goals omega
theorem je7(a b:Nat):mx (mn a 16385) (mn b 16385)=mn (max a b:Nat) 16385:=by
 have:max a b=if a≤b then b else a:=Nat.max_def;rw[this];unfold mn mx
 repeat' split
 all_goals omega
theorem jc5{n:Int}(h1:1≤n)(h2:n≤16)(a:Nat):mn (jt (mn a 16385 * n)) 16385=mn (n.toNat * a:Nat) 16385:=by
 have hb:=xh3 a;obtain⟨k,rfl⟩:∃k:Nat,n=k:=⟨n.toNat,aa⟩
 have hk:(mn a 16385 * (k:Int))≤16385 * 16:=by
  have:mn a 16385 * (k:Int)≤16385 * (k:Int):=Int.mul_le_mul_of_nonneg_right hb.2 aa;omega
 have h0:0≤mn a 16385 * (k:Int):=Int.mul_nonneg hb.1 aa;rw[qrx aa aa];simp only[qld];by_cases ha:a≤16385
 ·have:mn a 16385=a:=qh8;rw[this,qlk]
  push_cast
  rfl
 ·have e1:mn a 16385=16385:=qh8;have h3:a≤k * a:=Nat.le_mul_of_pos_left a aa;rw[e1];unfold mn
  repeat' split
  all_goals omega
theorem qym(a b:N4):(rx a).plus (rx b)=rx (a.add b):=by
 simp only[rx,Cnt.plus,N4.add,xaq]
theorem xox(a b:N4):(rx a).larger (rx b)=rx (a.mx b):=by
 simp only[rx,Cnt.larger,N4.mx,je7]
theorem xt8{n:Int}(h1:1≤n)(h2:n≤16)(a:N4):(rx a).times n=rx (a.mul n.toNat):=by
 simp only[rx,Cnt.times,N4.mul,jc5 h1 h2]
theorem xa7{t:St}{d:Nat}(h:tv t d)(h6:t.op=6):1≤t.max∧t.max≤16:=by
 have h1:=((xc t d).1 h).1;unfold sg vd at h1;grind
theorem xtm{n:Nat}(h:n≤16385):mn n 16385=n:=qh8
theorem jlt{t:St}{d:Nat}(h:tv t d):qo9 t=rx (N4.one.add (n0 t.op t.max t.a t.b)):=by
 have hA:t.op≠8→xt t.a=mn (gE t.a) 16385:=fun k=>xlm _ _ (qw6 h k);have hB:t.op=3∨t.op=6→xt t.b=mn (gE t.b) 16385:=fun k=>xlm _ _ (qyb h k);unfold qo9 rx N4.add N4.one n0;simp only;have m0:mn 0 16385=0:=bc;have m1:mn 1 16385=1:=bc;by_cases h3:t.op=3
 ·have h8:¬t.op=8:=aa;have h6:¬t.op=6:=aa;have h4:¬t.op=4:=aa;have h7:¬t.op=7:=aa;rw[if_pos h3,if_neg h8,hA h8,hB (.inl h3),xaq];simp[h3,m0,m1]
 by_cases h4:t.op=4
 ·have h8:¬t.op=8:=aa;rw[if_neg h3,if_pos h4,if_neg h8,hA h8];simp[h4,m0,m1]
 by_cases h7:t.op=7
 ·have h8:¬t.op=8:=aa;rw[if_neg h3,if_neg h4,if_pos h7,if_neg h8,hA h8];simp[h7,m0,m1]
 by_cases h6:t.op=6
 ·have h8:¬t.op=8:=aa;have hm:=xa7 h h6;rw[if_neg h3,if_neg h4,if_neg h7,if_pos h6,if_neg h8,hA h8,hB (.inr h6),xaq,qrx aa aa,xtm (n:=1+_) (by simp[h6];omega)];simp[h6,m0,m1];omega
 rw[if_neg h3,if_neg h4,if_neg h7,if_neg h6];by_cases h8:t.op=8
 ·simp[h8,m0,m1]
 ·rw[if_neg h8,hA h8];simp[h3,h4,h6,h7,h8,m0,m1]
theorem xid{l:List St}:∀(x:N4),(∀t∈l,qx4 t=rx (N4.one.add (nS t)))→qtc l (rx x)=rx (x.add (nL l)):=by
 induction l with
 |nil=>intro x _;rw[qtc,nL];rfl
 |cons t l ih =>
  intro x h;rw[qtc,h t ae,qym,ih _ (fun y hy=>h y cm),nL];simp only[N4.add,qli]
theorem qzg:rx .zero=⟨0,0,0,0⟩:=rfl
theorem qzj(x:N4):N4.zero.add x=x:=by cases x;simp[N4.zero,N4.add]
theorem xvp(x:N4):x.add N4.zero=x:=by cases x;simp[N4.zero,N4.add]
theorem xw5(x y z:N4):(x.add y).add z=x.add (y.add z):=by simp[N4.add,qli]
theorem xl7:∀(t:St) (d:Nat),tv t d→qx4 t=rx (N4.one.add (nS t))
 | .mk op name mx a b body els,d,h=>by
  have h1:=(xc _ _).1 h;have hb:ru body=rx (nL body):=by
   have:=xid (l:=body) .zero fun x hx=>by
    have:=fj (show x∈body from hx);exact xl7 x (d+1) (h1.2.1 x hx)
   rw[qzg,qzj]at this;exact this
  have he:ru els=rx (nL els):=by
   have:=xid (l:=els) .zero fun x hx=>by
    have:=fj (show x∈els from hx);exact xl7 x (d+1) (h1.2.2 x hx)
   rw[qzg,qzj]at this;exact this
  rw[xvd,xq7,jlt h];simp only[St.body,St.els]at hb he⊢;by_cases h5:(St.mk op name mx a b body els).op=5
  ·rw[if_pos h5,if_pos h5,hb,he,xox,qym,xw5]
  by_cases h6:(St.mk op name mx a b body els).op=6
  ·have hm:=xa7 h h6;rw[if_neg h5,if_pos h6,if_neg h5,if_pos h6,hb,xt8 hm.1 hm.2,qym,xw5]
  ·rw[if_neg h5,if_neg h6,if_neg h5,if_neg h6,xvp]
termination_by t=>SizeOf.sizeOf t
decreasing_by
 all_goals
  simp only[St.mk.sizeOf_spec];omega
theorem xra{l:List St}{d:Nat}(h:x6 l d):ru l=rx (nL l):=by
 have:=xid (l:=l) .zero fun x hx=>xl7 x d (h x hx);rw[qzg,qzj]at this;exact this
structure Dl(s t:MS)(n:N4):Prop where
 st:t.steps≤s.steps+n.st
 ge:t.reads.length≤s.reads.length+n.ge
 pu:t.puts.length≤s.puts.length+n.pu
 em:t.out.length≤s.out.length+n.em
theorem Dl.refl(s:MS)(n:N4):Dl s s n:=⟨aa,aa,aa,aa⟩
theorem Dl.trans{s t u:MS}{m n:N4}(h:Dl s t m)(g:Dl t u n):Dl s u (m.add n):=by
 obtain⟨h1,h2,h3,h4⟩:=h;obtain⟨g1,g2,g3,g4⟩:=g;exact⟨az,az,az,az⟩
theorem Dl.mono{s t:MS}{m n:N4}(h:Dl s t m)(h1:m.st≤n.st)(h2:m.ge≤n.ge)(h3:m.pu≤n.pu)(h4:m.em≤n.em):Dl s t n:=by
 obtain⟨g1,g2,g3,g4⟩:=h;exact⟨aa,aa,aa,aa⟩
section
variable {C:Cfg}
theorem jax(k:g9)(s:MS):Dl s (r5 C k s).2 ⟨0,1,0,0⟩:=by
 unfold r5;split
 ·exact Dl.refl _ _
 split
 ·exact Dl.refl _ _
 split
 ·exact Dl.refl _ _
 ·exact⟨ae,qzx _ _,ae,ae⟩
theorem xvs(k:g9)(v:V)(s:MS):Dl s (qz C k v s).2 ⟨0,0,1,0⟩:=by
 unfold qz;split
 ·exact Dl.refl _ _
 split
 ·exact Dl.refl _ _
 ·exact⟨ae,ae,qzx _ _,ae⟩
theorem xza(v:V)(s:MS):Dl s (uj v s).2 ⟨0,0,0,1⟩:=by
 unfold uj;split
 ·exact Dl.refl _ _
 ·exact⟨ae,ae,ae,ae⟩
theorem xnr(s:MS):Dl s (qq s).2 .one:=⟨by simp[qq,N4.one],by simp[qq],by simp[qq],by simp[qq]⟩
theorem xtv(s:MS)(v:List (g9×V))(n:N4):Dl s { s with vars:=v } n:=⟨ae,ae,ae,ae⟩
theorem xr6:∀{l:List Ex} {s t:MS} {r:List V},m6 C l s=(.ok r,t)→r.length=l.length
 | [],s,t,r,h=>by rw[m6]at h;cases h;rfl
 |e::l,s,t,r,h=>by
  rw[m6]at h;split at h
  ·cases h
  ·split at h
   ·cases h
   ·rename_i h2;cases h;simp[xr6 h2]
theorem jje{op:Int}{l:List V}(s:MS)(h:(l.length:Int)=me op):Dl s (ul C op l s).2 ⟨0,if op=22∨op=23∨op=24 then 1 else 0,0,0⟩:=by
 unfold ul;split
 ·rename_i a;have jy:op=9∨op=18∨op=20∨op=21∨op=22∨op=23∨op=24:=by
   unfold me at h;simp at h;split at h
   ·omega
   split at h
   ·omega
   split at h
   ·rename_i h1 _ h2;omega
   ·omega
  unfold rr;split
  ·exact Dl.refl _ _
  split
  ·exact Dl.refl _ _
  split
  ·exact Dl.refl _ _
  split
  ·exact Dl.refl _ _
  split
  ·exact Dl.refl _ _
  ·have:=jax (C:=C) a.s s;rw[if_pos aa];split
   ·rename_i hf;rw[hf]at this;exact this
   ·rename_i hf;rw[hf]at this;exact this
 ·exact Dl.refl _ _
 ·exact Dl.refl _ _
mutual
theorem qvb:∀(e:Ex) (d:Nat) (s:MS),mg e d=0→Dl s (kx C e s).2 ⟨0,gE e,0,0⟩
 | .mk op n t args,d,s,h=>by
  have qt:=qez h;simp only[Ex.args,Ex.op]at qt;have hL:=xv0 args (d+1) s (by
   rw[mg]at h;split at h
   ·exact h
   ·contradiction)
  rw[kx,gE];split
  ·exact Dl.refl _ _
  split
  ·exact Dl.refl _ _
  split
  ·exact Dl.refl _ _
  split
  ·rename_i h1;rw[h1]at hL;exact hL.mono ae ae ae ae
  ·rename_i h1;rw[h1]at hL;have hl:=xr6 h1;exact(hL.trans (jje _ (by rw[hl];exact qt))).mono bs (by simp[N4.add];omega) bs bs
theorem xv0:∀(l:List Ex) (d:Nat) (s:MS),vq l d=0→Dl s (m6 C l s).2 ⟨0,gL l,0,0⟩
 | [],d,s,_=>by rw[m6];exact Dl.refl _ _
 |e::l,d,s,h=>by
  rw[vq]at h;split at h
  ·rename_i h0;have hE:=qvb e d s h0;rw[m6,gL];split
   ·rename_i h1;rw[h1]at hE;exact hE.mono ae ae ae ae
   ·rename_i m' h1;rw[h1]at hE;have hL:=xv0 l d m' h;split
    ·rename_i h2;rw[h2]at hL;exact hE.trans hL
    ·rename_i h2;rw[h2]at hL;exact hE.trans hL
  ·contradiction
end
theorem xq6{body:MS→Except Stop Unit×MS}{name:g9}{b:Int}{x:N4}(hb64:i64 b)(hb:∀s,Inv 8192 1 s→Dl s (body s).2 x)(hI:∀s u t,Inv 8192 1 s→body s=(.ok u,t)→Inv 0 0 t) :
  ∀(n f:Nat) (i:Int) (s:MS),i64 i→b - i≤n→Inv 0 0 s→Dl s (o8 body name b f i s).2 ((N4.one.add x).mul n)
 |_,0,i,s,_,_,_=>by rw[o8];exact Dl.refl _ _
 | 0,f+1,i,s,hi,hn,h=>by rw[o8,if_neg aa];exact Dl.refl _ _
 |n+1,f+1,i,s,hi,hn,h=>by
  have hT:=xnr s;have e:∀y:N4,y.mul (n+1)=y.add (y.mul n):=fun y=>by simp[N4.mul,N4.add,Nat.succ_mul,Nat.add_comm]
  rw[o8,e];split
  ·rename_i hib;split
   ·rename_i h1;rw[h1]at hT;exact hT.mono qhb qhb qhb qhb
   ·rename_i m' h1;rw[h1]at hT;have uq:=(h.tick h1).vars (qqb hi) name;have hV:=xtv m' (js m'.vars name (vI i)) .zero;have hB:=hb _ uq;split
    ·rename_i h2;rw[h2]at hB;exact(hT.trans (hV.trans hB)).mono qfj qfj qfj qfj
    ·rename_i kh h2;have mt:=hI _ _ _ uq h2;rw[h2]at hB;have hw:jt (i+1)=i+1:=qrx qhn qi9;have hR:=xq6 (name:=name) hb64 hb hI n f (i+1) kh ⟨qhn,qi9⟩ aa mt;rw[hw];exact((hT.trans (hV.trans hB)).trans hR).mono qfj qfj qfj qfj
  ·exact Dl.refl _ _
theorem few{a b mx:Int}(ha:i64 a)(hb:i64 b)(h1:1≤mx)(h2:mx≤16)(h:¬qtd a b mx):b - a≤mx.toNat:=by
 unfold qtd at h;obtain⟨a1,a2⟩:=ha;obtain⟨b1,b2⟩:=hb;simp only[IntKind.wrap,IntKind.bits,IntKind.signed]at h;simp at h;omega
end
section
variable {C:Cfg}
mutual
theorem jah(hC:ur C):∀(t:St) (d:Nat) (s:MS),tv t d→t8 t→Inv 8192 1 s→Dl s (oj C t s).2 (nS t)
 | .mk op name mx a b body els,d,s,hO,hG,h=>by
  have hG':=(qsn _).1 hG;have hO':=(xc _ _).1 hO;have oA:=fun k=>qw6 hO k;have oB:=fun k=>qyb hO k;have oM:=fun k=>xa7 hO k;simp only[St.op,St.a,St.b,St.body,St.els,St.max]at hG' hO' oA oB oM;obtain⟨hA,hB,s6,qns⟩:=hG';obtain⟨_,xbq,oels⟩:=hO';rw[oj,nS];by_cases h1:op=1∨op=2
  ·simp only[h1,if_true];have h8:¬op=8:=aa;have hE:=qvb (C:=C) a 1 s (oA h8);have hx:gE a≤(n0 op mx a b).ge:=by unfold n0;simp only[h8,if_false];omega
   split
   ·rename_i hm;rw[hm]at hE;exact hE.mono ae az ae ae
   ·rename_i hm;rw[hm]at hE;exact(hE.trans (xtv _ _ .zero)).mono qkn (by simp only[N4.add,N4.zero];omega) qkn qkn
  simp only[h1,if_false];by_cases h3:op=3
  ·simp only[h3,if_true];have hE:=qvb (C:=C) a 1 s (oA aa);have hx:(n0 3 mx a b).ge=gE a+gE b:=qhg;have hy:(n0 3 mx a b).pu=1:=qhg;split
   ·rename_i hm;rw[hm]at hE;exact hE.mono ae az ae ae
   ·rename_i k m' hm;rw[hm]at hE;have lu:=qvb (C:=C) b 1 m' (oB aa);split
    ·rename_i hm2;rw[hm2]at lu;exact(hE.trans lu).mono bs az bs bs
    ·rename_i v kh hm2;rw[hm2]at lu;split
     ·exact((hE.trans lu).trans (xvs k.s v kh)).mono bs az az bs
     ·exact(hE.trans lu).mono bs az bs bs
  simp only[h3,if_false];by_cases h4:op=4
  ·simp only[h4,if_true];have hE:=qvb (C:=C) a 1 s (oA aa);have hx:(n0 4 mx a b).ge=gE a:=qhg;have hy:(n0 4 mx a b).pu=1:=qhg;split
   ·rename_i hm;rw[hm]at hE;exact hE.mono ae az ae ae
   ·rename_i k m' hm;rw[hm]at hE;split
    ·exact(hE.trans (xvs k.s V.nil m')).mono bs az az bs
    ·exact hE.mono ae az ae ae
  simp only[h4,if_false];by_cases h5:op=5
  ·simp only[h5,if_true];have h0:=h.eval hC (r:=4097) (hA aa);have hE:=qvb (C:=C) a 1 s (oA aa);have hx:(n0 5 mx a b).ge=gE a:=qhg;split
   ·rename_i hm;rw[hm]at hE;exact hE.mono ae az ae ae
   ·rename_i c m' hm;rw[hm]at hE h0;split
    ·split
     ·have hB:=qzd hC body (d+1) m' xbq s6 (h0.1.mono aa aa);have m1:=Nat.le_max_left (nL body).st (nL els).st;have m2:=Nat.le_max_left (nL body).ge (nL els).ge;have m3:=Nat.le_max_left (nL body).pu (nL els).pu;have m4:=Nat.le_max_left (nL body).em (nL els).em;exact(hE.trans hB).mono qfm qfm qfm qfm
     ·have hB:=qzd hC els (d+1) m' oels qns (h0.1.mono aa aa);have m1:=Nat.le_max_right (nL body).st (nL els).st;have m2:=Nat.le_max_right (nL body).ge (nL els).ge;have m3:=Nat.le_max_right (nL body).pu (nL els).pu;have m4:=Nat.le_max_right (nL body).em (nL els).em;exact(hE.trans hB).mono qfm qfm qfm qfm
    ·exact hE.mono ae az ae ae
  simp only[h5,if_false];by_cases h6:op=6
  ·simp only[h6,if_true];have h0:=h.eval hC (r:=4097) (hA aa);have hE:=qvb (C:=C) a 1 s (oA aa);have hx:(n0 6 mx a b).ge=gE a+gE b:=qhg;have hy:(n0 6 mx a b).st=mx.toNat:=qhg;have hM:=oM h6;split
   ·rename_i hm;rw[hm]at hE;exact hE.mono ae az ae ae
   ·rename_i u m' hm;rw[hm]at hE h0;have lu:=qvb (C:=C) b 1 m' (oB aa);have h2:=h0.1.eval hC (r:=2) (hB aa);split
    ·rename_i hm2;rw[hm2]at lu;exact(hE.trans lu).mono bs az bs bs
    ·rename_i v kh hm2;rw[hm2]at lu h2;split
     ·split
      ·exact(hE.trans lu).mono bs az bs bs
      ·rename_i ht;have hu:=(h0.2 _ rfl).1;have hv:=(h2.2 _ rfl).1;have hn:=few hu hv hM.1 hM.2 ht;have hl:=xq6 (name:=name) (body:=fun x=>kn C body x) hv (fun s hs=>qzd hC body (d+1) s xbq s6 (hs.mono aa aa)) (fun s u t hs hg=>qv2 hC body s u t s6 (hs.mono aa aa) hg) mx.toNat 16386 u.n kh hu hn (h2.1.mono aa aa);have e1:(N4.one.add (nL body)).mul mx.toNat=⟨mx.toNat+mx.toNat * (nL body).st,mx.toNat * (nL body).ge,mx.toNat * (nL body).pu,mx.toNat * (nL body).em⟩:=by
        simp[N4.mul,N4.add,N4.one,Nat.mul_add]
       rw[e1]at hl;exact((hE.trans lu).trans hl).mono qhc qhc qhc qhc
     ·exact(hE.trans lu).mono bs az bs bs
  simp only[h6,if_false];by_cases h7:op=7
  ·simp only[h7,if_true];have hE:=qvb (C:=C) a 1 s (oA aa);have hx:(n0 7 mx a b).ge=gE a:=qhg;have hy:(n0 7 mx a b).em=1:=qhg;split
   ·rename_i hm;rw[hm]at hE;exact hE.mono ae az ae ae
   ·rename_i v m' hm;rw[hm]at hE;split
    ·exact(hE.trans (xza v m')).mono bs az bs az
    ·exact hE.mono ae az ae ae
  simp only[h7,if_false];split
  ·exact Dl.refl _ _
  ·exact Dl.refl _ _
theorem qzd(hC:ur C):∀(l:List St) (d:Nat) (s:MS),x6 l d→(∀x∈l,t8 x)→Inv 0 0 s→Dl s (kn C l s).2 (nL l)
 | [],d,s,_,_,_=>by rw[kn];exact Dl.refl _ _
 |t::l,d,s,hO,hG,h=>by
  have hT:=xnr s;rw[kn,nL];split
  ·rename_i hm;rw[hm]at hT;exact hT.mono az az az az
  ·rename_i m' hm;rw[hm]at hT;have hI:=h.tick hm;have hS:=jah hC t d m' (hO t ae) (hG t ae) hI;split
   ·rename_i hm2;rw[hm2]at hS;exact(hT.trans hS).mono az az az az
   ·rename_i kh hm2;have mt:=xdl hC t _ _ _ (hG t ae) hI hm2;rw[hm2]at hS;exact(hT.trans hS).trans (qzd hC l d kh (fun x hx=>hO x bt) (fun x hx=>hG x bt) mt)
end
end
def oz(v:V):Prop:=qs4 v.k v.n v.s=true
def zi(v:V):Prop:=vj v.k v.n v.s=true
def vM(s:MS):Prop:=(∀p∈s.vars,oz p.2)∧∀p∈s.own,zi p.2
structure vC(C:Cfg):Prop where
 st:∀p∈C.state,zi p.v
 fmt:∀n,i64 n→ml (C.fmt n)=true
theorem qzn(n:Int):oz (vI n):=by simp[oz,qs4,vj,vI]
theorem xav(b:Bool):oz (vB b):=by cases b<;>simp[oz,qs4,vB]
theorem xm3{s:g9}(h:ml s=true):oz (vS s):=by simp[oz,qs4,vj,vS,h]
theorem xfl:zi V.nil:=by simp[zi,vj,V.nil]
theorem xmn{v:V}(h:oz v)(hk:v.k=2):ml v.s=true:=by
 unfold oz qs4 vj at h;simp[hk]at h;exact h.2
theorem xqd{v:V}(h:oz v)(hk:v.k=1∨v.k=2):zi v:=by
 unfold oz qs4 at h;rw[if_neg aa]at h;simp only[c0]at h;exact h.2
theorem jj2{v:V}(h:zi v)(hk:v.k≠0)(hk3:v.k≠3):oz v:=by
 unfold oz qs4;rw[if_neg hk3];have h:vj v.k v.n v.s=true:=h;simp[hk,h]
theorem xxt{a b:g9}(ha:ml a=true)(hb:ml b=true)(h:((a++b).size:Int)≤64):ml (a++b)=true:=by
 unfold ml at ha hb⊢;simp only[c0,decide_eq_true_eq,xge]at ha hb⊢;refine⟨fun x hx=>?_,h⟩;have:bl (a++b)=bl a++bl b:=by simp[bl]
 rw[this,dt]at hx;rcases hx with hx|hx
 ·exact ha.1 x hx
 ·exact hb.1 x hx
theorem jbj:ml em=true:=bc
theorem xmb{s:g9}{v:V}(hs:(s.size:Int)≤64→ml s=true)(h:wq s=.ok v):oz v:=by
 unfold wq at h;split at h
 ·cases h
 ·cases h;exact xm3 (hs aa)
theorem xni{r:Int×Int}{v:V}(h:sj r=.ok v):oz v:=by
 unfold sj at h;split at h
 ·cases h;exact qzn _
 ·split at h<;>cases h
theorem jat{op:Int}{a b v:V}(ha:oz a)(hb:oz b)(h:s8 op a b=.ok v):oz v:=by
 unfold s8 at h;split at h
 ·split at h
  ·unfold yc at h
   repeat' split at h
   all_goals exact xni h
  ·cases h
 split at h
 ·split at h<;>cases h;exact xav _
 split at h
 ·split at h<;>cases h;exact xav _
 split at h
 ·split at h
  ·rename_i hk;exact xmb (fun hs=>xxt (xmn ha hk.1) (xmn hb hk.2) hs) h
  ·cases h
 ·unfold qtr at h;split at h<;>cases h;exact xav _
theorem xzn{op:Int}{w v:V}(jy:op=22∨op=23∨op=24)(hw:zi w)(h:wd op w=.ok v):oz v:=by
 unfold wd at h;split at h
 ·cases h;exact xav _
 split at h
 ·cases h;exact qzn _
 split at h
 ·exact xmb (fun _=>jbj) h
 split at h
 ·cases h
 ·cases h;exact jj2 hw aa aa
theorem jhp{l:List Pr}(h:∀p∈l,zi p.v)(k:g9):zi (lh l k):=by
 induction l with
 |nil=>exact xfl
 |cons p l ih =>
  rw[lh];split
  ·exact h p ae
  ·exact ih fun q hq=>h q cn
section
variable {C:Cfg} (hV:vC C)
include hV
theorem jf7{k:g9}{s t:MS}{v:V}(hM:vM s)(h:r5 C k s=(.ok v,t)):zi v:=by
 unfold r5 at h;split at h
 ·cases h
 split at h
 ·rename_i w hw;cases h;exact hM.2 _ (qv7 hw)
 split at h
 ·cases h
 ·cases h;exact jhp hV.st k
theorem jm1{op:Int}{l:List V}{s t:MS}{v:V}(hM:vM s)(hl:(l.length:Int)=me op)(hx:∀a∈l,oz a)(hr:∀a∈l,kp a)(h:ul C op l s=(.ok v,t)):oz v:=by
 have hy:∀{x:EV} {u:MS},(x,u)=((.ok v,t):EV×MS)→x=.ok v:=fun h=>congrArg Prod.fst h;unfold ul at h;split at h
 ·rename_i a;have jy:op=9∨op=18∨op=20∨op=21∨op=22∨op=23∨op=24:=by
   unfold me at hl;simp at hl;split at hl
   ·omega
   split at hl
   ·omega
   split at hl
   ·omega
   ·omega
  unfold rr at h;split at h
  ·have h:=hy h;split at h
   ·exact xni h
   ·cases h
  split at h
  ·have h:=hy h;split at h<;>cases h;exact xav _
  split at h
  ·have h:=hy h;split at h
   ·exact xmb (fun _=>hV.fmt _ (hr a ae).1) h
   ·cases h
  split at h
  ·have h:=hy h;split at h<;>cases h;exact qzn _
  split at h
  ·cases h
  split at h
  ·cases h
  ·rename_i hf;exact xzn aa (jf7 hV hM hf) (hy h)
 ·rename_i a b;exact jat (hx a ae) (hx b ae) (hy h)
 ·cases h
end
theorem qre{s t:MS}{n:Nat}(h:EvOk s n t)(hM:vM s):vM t:=by rw[h.eq];exact hM
section
variable {C:Cfg} (hV:vC C) (hC:ur C)
include hV hC
mutual
theorem xdb:∀(e:Ex) (d:Nat) (s t:MS) (v:V),mg e d=0→su e→vM s→qpc s→jp s.reads→kx C e s=(.ok v,t)→oz v
 | .mk op n x args,d,s,t,v,hc,hR,hM,hr,ha,h=>by
  have qt:=qez hc;have yv:=(qvc _).1 hR;simp only[Ex.args,Ex.op,Ex.n,Ex.s]at qt yv;rw[mg]at hc;by_cases hn:vk op n x args.length d=0
  ·rw[if_pos hn]at hc;rw[kx]at h;split at h
   ·cases h;exact qzn _
   split at h
   ·rename_i h2;cases h;refine xm3 ?_;unfold vk at hn;subst h2;cases hp:ml x with
    |true=>rfl
    |false=>simp[hp]at hn
   split at h
   ·have h:=congrArg Prod.fst h;simp only at h;split at h
    ·rename_i w hw;cases h;exact hM.1 _ (qv7 hw)
    ·cases h
   split at h
   ·cases h
   ·rename_i l m' hL;have hE:=xdj hC args s yv.2 hr ha;rw[hL]at hE;have hl:=xja args (d+1) s m' l hc yv.2 hM hr ha hL;exact jm1 hV (qre hE.1 hM) qjw hl (hE.2 l rfl) h
  ·rw[if_neg hn]at hc;exact(hn hc).elim
theorem xja:∀(l:List Ex) (d:Nat) (s t:MS) (r:List V),vq l d=0→(∀x∈l,su x)→vM s→qpc s→jp s.reads→m6 C l s=(.ok r,t)→∀v∈r,oz v
 | [],d,s,t,r,_,_,_,_,_,h=>by rw[m6]at h;cases h;simp
 |e::l,d,s,t,r,hc,hR,hM,hr,ha,h=>by
  rw[vq]at hc;split at hc
  ·rename_i h0;rw[m6]at h;split at h
   ·cases h
   ·rename_i v m' hE;have wz:=qpl hC e s (hR e ae) hr ha;rw[hE]at wz;have hv:=xdb e d s m' v h0 (hR e ae) hM hr ha hE;split at h
    ·cases h
    ·rename_i r' kh hL;cases h;have hl:=xja l d m' _ r' hc (fun x hx=>hR x bt) (qre wz.1 hM) (wz.1.rng hr) wz.1.asc hL;intro w hw;rcases cw.1 hw with rfl|hw
     ·exact hv
     ·exact hl w hw
  ·contradiction
end
theorem xmw{s:MS}{v:V}(k:g9)(hM:vM s)(hv:oz v):vM { s with vars:=js s.vars k v }:=⟨fun p hp=>by
 rcases qxl hp with rfl|hp
 ·exact hv
 ·exact hM.1 p hp,hM.2⟩
theorem xju{s t:MS}{k:g9}{v:V}{u:Unit}(hM:vM s)(hv:zi v)(h:qz C k v s=(.ok u,t)):vM t:=by
 unfold qz at h;split at h
 ·cases h
 split at h
 ·cases h
 ·cases h;refine⟨hM.1,fun p hp=>?_⟩;rcases qxl hp with rfl|hp
  ·exact hv
  ·exact hM.2 p hp
theorem xp9{s t:MS}{v:V}{u:Unit}(hM:vM s)(h:uj v s=(.ok u,t)):vM t:=by
 unfold uj at h;split at h
 ·cases h
 ·cases h;exact hM
theorem xrq{s t:MS}{u:Unit}(hM:vM s)(h:qq s=(.ok u,t)):vM t:=by
 unfold qq at h;split at h
 ·cases h
 ·cases h;exact hM
theorem xm1{body:MS→Except Stop Unit×MS}{name:g9}{b:Int}(hb:∀s u t,Inv 8192 1 s→vM s→body s=(.ok u,t)→Inv 0 0 t∧vM t):∀(f:Nat) (i:Int) (s:MS) (u:Unit) (t:MS),i64 i→Inv 0 0 s→vM s→o8 body name b f i s=(.ok u,t)→vM t
 | 0,i,s,u,t,_,_,hM,h=>by rw[o8]at h;cases h;exact hM
 |f+1,i,s,u,t,hi,hI,hM,h=>by
  rw[o8]at h;split at h
  ·split at h
   ·cases h
   ·rename_i m' hm;have hM1:=xrq hV hC hM hm;have h1:=(hI.tick hm).vars (qqb hi) name;have hM2:=xmw hV hC name hM1 (qzn i);split at h
    ·cases h
    ·rename_i kh pc;have h2:=hb _ _ _ h1 hM2 pc;exact xm1 hb f _ _ _ _ (qth _) h2.1 h2.2 h
  ·cases h;exact hM
mutual
theorem jd2:∀(t:St) (d:Nat) (s:MS) (u:Unit) (s':MS),tv t d→t8 t→Inv 8192 1 s→vM s→oj C t s=(.ok u,s')→vM s'
 | .mk op name mx a b body els,d,s,u,s',hO,hG,h,hM,g=>by
  have hG':=(qsn _).1 hG;have hO':=(xc _ _).1 hO;have oA:=fun k=>qw6 hO k;have oB:=fun k=>qyb hO k;simp only[St.op,St.a,St.b,St.body,St.els,St.max]at hG' hO' oA oB;obtain⟨hA,hB,s6,qns⟩:=hG';obtain⟨_,xbq,oels⟩:=hO';rw[oj]at g;split at g
  ·split at g
   ·cases g
   ·rename_i v m' hm;have hE:=qpl hC a s (hA aa).1 h.rng h.ar;rw[hm]at hE;have hv:=xdb hV hC a 1 s m' v (oA aa) (hA aa).1 hM h.rng h.ar hm;cases g;exact xmw hV hC name (qre hE.1 hM) hv
  split at g
  ·have h1:=h.eval hC (r:=4097) (hA aa);split at g
   ·cases g
   ·rename_i k m' hm;have hE:=qpl hC a s (hA aa).1 h.rng h.ar;rw[hm]at hE h1;have hM1:=qre hE.1 hM;split at g
    ·cases g
    ·rename_i v kh pc;have lu:=qpl hC b m' (hB aa).1 h1.1.rng h1.1.ar;rw[pc]at lu;have hv:=xdb hV hC b 1 m' kh v (oB aa) (hB aa).1 hM1 h1.1.rng h1.1.ar pc;split at g
     ·rename_i hk;exact xju hV hC (qre lu.1 hM1) (xqd hv hk.2) g
     ·cases g
  split at g
  ·split at g
   ·cases g
   ·rename_i k m' hm;have hE:=qpl hC a s (hA aa).1 h.rng h.ar;rw[hm]at hE;split at g
    ·exact xju hV hC (qre hE.1 hM) xfl g
    ·cases g
  split at g
  ·have h1:=h.eval hC (r:=4097) (hA aa);split at g
   ·cases g
   ·rename_i c m' hm;have hE:=qpl hC a s (hA aa).1 h.rng h.ar;rw[hm]at hE h1;have hM1:=qre hE.1 hM;split at g
    ·split at g
     ·exact xbr body (d+1) _ _ _ xbq s6 (h1.1.mono aa aa) hM1 g
     ·exact xbr els (d+1) _ _ _ oels qns (h1.1.mono aa aa) hM1 g
    ·cases g
  split at g
  ·have h1:=h.eval hC (r:=4097) (hA aa);split at g
   ·cases g
   ·rename_i x m' hm;have hE:=qpl hC a s (hA aa).1 h.rng h.ar;rw[hm]at hE h1;have hM1:=qre hE.1 hM;have h2:=h1.1.eval hC (r:=2) (hB aa);split at g
    ·cases g
    ·rename_i y kh pc;have lu:=qpl hC b m' (hB aa).1 h1.1.rng h1.1.ar;rw[pc]at lu h2;have hM2:=qre lu.1 hM1;split at g
     ·split at g
      ·cases g
      ·exact xm1 hV hC (fun s u t hs hm hg=>⟨qv2 hC body s u t s6 (hs.mono aa aa) hg,xbr body (d+1) s u t xbq s6 (hs.mono aa aa) hm hg⟩) _ _ _ _ _ (h1.2 _ rfl).1 (h2.1.mono aa aa) hM2 g
     ·cases g
  split at g
  ·split at g
   ·cases g
   ·rename_i v m' hm;have hE:=qpl hC a s (hA aa).1 h.rng h.ar;rw[hm]at hE;split at g
    ·exact xp9 hV hC (qre hE.1 hM) g
    ·cases g
  split at g
  ·cases g
  ·cases g;exact hM
theorem xbr:∀(l:List St) (d:Nat) (s:MS) (u:Unit) (s':MS),x6 l d→(∀x∈l,t8 x)→Inv 0 0 s→vM s→kn C l s=(.ok u,s')→vM s'
 | [],d,s,u,s',_,_,_,hM,g=>by rw[kn]at g;cases g;exact hM
 |t::l,d,s,u,s',hO,hG,h,hM,g=>by
  rw[kn]at g;split at g
  ·cases g
  ·rename_i m' hm;split at g
   ·cases g
   ·rename_i kh pc;have hI:=h.tick hm;have hM1:=xrq hV hC hM hm;have hM2:=jd2 t d m' _ kh (hO t ae) (hG t ae) hI hM1 pc;exact xbr l d kh _ s' (fun x hx=>hO x bt) (fun x hx=>hG x bt) (xdl hC t _ _ _ (hG t ae) hI pc) hM2 g
end
end
abbrev nu(l:List Pr):List g9:=l.map (·.key)
theorem xos:∀(l:List Pr) (we:Option g9),qq2 we l=true↔(∀p∈l,rk p.key=true)∧jp (nu l)∧∀k,we=some k→∀p∈l,ju k p.key=true
 | [],we=>by simp[qq2]
 |p::l,we=>by
  simp only[qq2,c0,xos l,cw,nu,c8,ef,dk];constructor
  ·rintro⟨⟨h1,h2⟩,h3,h4,h5⟩;refine⟨?_,⟨?_,h4⟩,?_⟩
   ·rintro q (rfl|hq)
    ·exact h1
    ·exact h3 q hq
   ·rintro x ⟨q,hq,rfl⟩;exact h5 _ rfl q hq
   ·rintro k rfl q (rfl|hq)
    ·exact h2
    ·exact qdz h2 (h5 _ rfl q hq)
  ·rintro⟨h1,⟨h2,h3⟩,h4⟩;refine⟨⟨h1 p (.inl rfl),?_⟩,fun q hq=>h1 q (.inr hq),h3,?_⟩
   ·cases we with
    |none=>rfl
    |some k=>exact h4 k rfl p (.inl rfl)
   ·rintro k hk q hq;cases hk;exact h2 _ ⟨q,hq,rfl⟩
theorem xao:∀(l:List g9) (we:Option g9),ui we l=true↔(∀k∈l,rk k=true)∧jp l∧∀k,we=some k→∀x∈l,ju k x=true
 | [],we=>by simp[ui]
 |p::l,we=>by
  simp only[ui,c0,xao l,cw,ef];constructor
  ·rintro⟨⟨h1,h2⟩,h3,h4,h5⟩;refine⟨?_,⟨?_,h4⟩,?_⟩
   ·rintro q (rfl|hq)
    ·exact h1
    ·exact h3 q hq
   ·intro x hx;exact h5 _ rfl x hx
   ·rintro k rfl q (rfl|hq)
    ·exact h2
    ·exact qdz h2 (h5 _ rfl q hq)
  ·rintro⟨h1,⟨h2,h3⟩,h4⟩;refine⟨⟨h1 p (.inl rfl),?_⟩,fun q hq=>h1 q (.inr hq),h3,?_⟩
   ·cases we with
    |none=>rfl
    |some k=>exact h4 k rfl p (.inl rfl)
   ·rintro k hk q hq;cases hk;exact h2 _ hq
theorem qdw(l:List Pr):qc6 l=true↔(∀p∈l,zi p.v)∧(∀p∈l,rk p.key=true)∧jp (nu l):=by
 simp only[qc6,qtt,c0,xge,xos,zi];constructor
 ·rintro⟨h1,h2,h3,_⟩;exact⟨h1,h2,h3⟩
 ·rintro⟨h1,h2,h3⟩;exact⟨h1,h2,h3,fun k hk=>by cases hk⟩
theorem xcu{α:Type}{p:α→Bool}:∀{l:List α},mv p l=true↔∃x,x∈l∧p x=true
 | []=>by simp[mv]
 |x::l=>by simp[mv,xcu (l:=l)]
theorem xws{α:Type}{p:α→Bool}{l:List α}:mv p l=false↔∀x,x∈l→p x=false:=by
 cases h:mv p l with
 |true =>
  obtain⟨x,hx,hp⟩:=xcu.1 h;simp only[Bool.true_eq_false,false_iff];intro k;rw[k x hx]at hp;cases hp
 |false =>
  simp only[true_iff];intro x hx;cases hp:p x with
  |false=>rfl
  |true=>rw[xcu.2 ⟨x,hx,hp⟩]at h;cases h
theorem qdi(l:List Pr):nn l=true↔(∀p∈l,zi p.v∧p.v.k≠0)∧(∀p∈l,rk p.key=true)∧jp (nu l):=by
 rw[←xwj,xak,c0,qdw,qls,xws];simp only[decide_eq_false_iff_not];constructor
 ·rintro⟨h0,h1,h2,h3⟩;exact⟨fun p hp=>⟨h1 p hp,h0 p hp⟩,h2,h3⟩
 ·rintro⟨h1,h2,h3⟩;exact⟨fun p hp=>(h1 p hp).2,fun p hp=>(h1 p hp).1,h2,h3⟩
theorem xod{l:List Pr}{k:g9}:p8 l k=true↔k∈nu l:=by
 simp[p8,xcu,nu]
theorem xiy{l:List Pr}{k:g9}:p8 l k=false↔∀p∈l,p.key≠k:=by
 simp[p8,xws]
theorem ux{l:List g9}{k:g9}:jk l k=true↔k∈l:=by
 simp[jk,xcu]
theorem jn9{v:V}(h:zi v)(hk:v.k=0):v=V.nil:=by
 obtain⟨k,n,s⟩:=v;unfold zi vj at h;simp only at hk;subst hk;simp at h;rw[h.1,h.2];rfl
theorem jbn{l:List Pr}{k:g9}(h:∀p∈l,p.key≠k):lh l k=V.nil:=by
 induction l with
 |nil=>rfl
 |cons p l ih =>
  rw[lh,if_neg (h p ae),ih fun q hq=>h q cn]
theorem qv6{l:List Pr}(ha:jp (nu l)){p:Pr}(hp:p∈l):lh l p.key=p.v:=by
 induction l with
 |nil=>cases hp
 |cons q l ih =>
  obtain⟨h1,h2⟩:=ef.1 ha;rw[lh];rcases cw.1 hp with rfl|hp
  ·rw[if_pos rfl]
  ·have:=h1 p.key (ql4 hp);rw[if_neg (qtj this),ih h2 hp]
theorem xhc{l:List Pr}{k:g9}(h:lh l k≠V.nil):(⟨k,lh l k⟩:Pr)∈l:=by
 induction l with
 |nil=>exact(h rfl).elim
 |cons p l ih =>
  rw[lh]at h⊢;split
  ·rename_i hk;subst hk;simp
  ·rename_i hk;rw[if_neg hk]at h;simp[ih h]
theorem xp5(k:g9)(l:List Pr):rz k l=jv k (nu l):=by
 induction l with
 |nil=>rfl
 |cons p l ih =>
  simp only[rz,nu,c8,jv];rw[ih]
theorem xvf{l:List Pr}{p q:Pr}:q∈qn9 l p↔q=p∨q∈l:=by
 unfold qn9;have e:=qlh (rz p.key l) l;rw[dt,cw];constructor
 ·rintro(h|h|h)
  ·exact .inr (gc h)
  ·exact .inl h
  ·exact .inr (qla h)
 ·rintro(h|h)
  ·exact .inr (.inl h)
  ·rw[←e,dt]at h;rcases h with h|h
   ·exact .inl h
   ·exact .inr (.inr h)
theorem jbc{l:List Pr}{p:Pr}(h:∀q∈l,q.key≠p.key):nu (qn9 l p)=sq (nu l) p.key:=by
 unfold qn9 sq;rw[xp5];rw[if_neg]
 ·simp[nu,dz,qlm,qln]
 ·intro hx;have:=c7 hx;obtain⟨q,hq,he⟩:=dk.1 this;exact h q hq he
theorem jga{l:List Pr}{p:Pr}(ha:jp (nu l))(h:∀q∈l,q.key≠p.key):jp (nu (qn9 l p)):=by
 rw[jbc h];exact xb1 ha _
theorem xji:∀(w out:List Pr),jp (nu out)→jp (nu w)→(∀q∈out,∀p∈w,q.key≠p.key)→jp (nu (qp1 out w))∧∀q,q∈qp1 out w↔q∈out∨(q∈w∧q.v.k≠0)
 | [],out,ha,_,_=>⟨ha,fun q=>by simp[qp1]⟩
 |p::w,out,ha,hw,hd=>by
  obtain⟨h1,h2⟩:=ef.1 hw;rw[qp1];split
  ·rename_i hk;obtain⟨g1,g2⟩:=xji w out ha h2 fun q hq r hr=>hd q hq r qg0;refine⟨g1,fun q=>?_⟩;rw[g2,cw];constructor
   ·rintro(h|⟨h,h'⟩)
    ·exact .inl h
    ·exact .inr ⟨.inr h,h'⟩
   ·rintro(h|⟨rfl|h,h'⟩)
    ·exact .inl h
    ·exact(h' hk).elim
    ·exact .inr ⟨h,h'⟩
  ·rename_i hk;have ii:∀q∈out,q.key≠p.key:=fun q hq=>hd q hq p ae;obtain⟨g1,g2⟩:=xji w (qn9 out p) (jga ha ii) h2 fun q hq r hr=>by
    rcases xvf.1 hq with rfl|hq
    ·exact qtj (h1 r.key (ql4 hr))
    ·exact hd q hq r qg0
   refine⟨g1,fun q=>?_⟩;rw[g2,cw,xvf];constructor
   ·rintro((rfl|h)|⟨h,h'⟩)
    ·exact .inr ⟨.inl rfl,hk⟩
    ·exact .inl h
    ·exact .inr ⟨.inr h,h'⟩
   ·rintro(h|⟨rfl|h,h'⟩)
    ·exact .inl (.inr h)
    ·exact .inl (.inl rfl)
    ·exact .inr ⟨h,h'⟩
theorem xh4(w:List Pr):∀(l:List Pr),(qp7 w l).Sublist l∧∀q,q∈qp7 w l↔q∈l∧p8 w q.key=false
 | []=>⟨List.Sublist.refl _,fun q=>by simp[qp7]⟩
 |p::l=>by
  obtain⟨h1,h2⟩:=xh4 w l;rw[qp7];split
  ·rename_i hp;refine⟨h1.cons _,fun q=>?_⟩;rw[h2,cw];constructor
   ·rintro⟨a,b⟩;exact⟨.inr a,b⟩
   ·rintro⟨rfl|a,b⟩
    ·rw[hp]at b;cases b
    ·exact⟨a,b⟩
  ·rename_i hp;refine⟨h1.cons_cons _,fun q=>?_⟩;rw[cw,h2,cw];constructor
   ·rintro(rfl|⟨a,b⟩)
    ·exact⟨.inl rfl,qha⟩
    ·exact⟨.inr a,b⟩
   ·rintro⟨rfl|a,b⟩
    ·exact .inl rfl
    ·exact .inr ⟨a,b⟩
theorem xgs{l w:List Pr}(hl:jp (nu l))(hw:jp (nu w)):jp (nu (qnd l w))∧∀q,q∈qnd l w↔(q∈l∧p8 w q.key=false)∨(q∈w∧q.v.k≠0):=by
 obtain⟨h1,h2⟩:=xh4 w l;obtain⟨g1,g2⟩:=xji w (qp7 w l) (hl.sublist (h1.map _)) hw fun q hq p hp=>by
  have:=((h2 q).1 hq).2;exact fun e=>xiy.1 this p hp e.symm
 refine⟨g1,fun q=>?_⟩;rw[qnd,g2,h2]
theorem je6{l w:List Pr}(hl:nn l=true)(hw:qc6 w=true):nn (qnd l w)=true:=by
 obtain⟨l1,l2,l3⟩:=(qdi l).1 hl;obtain⟨w1,w2,w3⟩:=(qdw w).1 hw;obtain⟨a1,a2⟩:=xgs l3 w3;refine(qdi _).2 ⟨fun p hp=>?_,fun p hp=>?_,a1⟩
 ·rcases(a2 p).1 hp with⟨h,_⟩|⟨h,hk⟩
  ·exact l1 p h
  ·exact⟨w1 p h,hk⟩
 ·rcases(a2 p).1 hp with⟨h,_⟩|⟨h,hk⟩
  ·exact l2 p h
  ·exact w2 p h
theorem xs4{l w:List Pr}(hl:jp (nu l))(hw:jp (nu w))(hv:∀p∈w,zi p.v)(k:g9):lh (qnd l w) k=if p8 w k then lh w k else lh l k:=by
 obtain⟨a1,a2⟩:=xgs hl hw;split
 ·rename_i hk;obtain⟨p,hp,rfl⟩:=dk.1 (xod.1 hk);rw[qv6 hw hp];by_cases h0:p.v.k=0
  ·rw[jn9 (hv p hp) h0];refine jbn fun q hq he=>?_;rcases(a2 q).1 hq with⟨_,h⟩|⟨h,h'⟩
   ·rw[he,hk]at h;cases h
   ·have e1:=qv6 hw h;have e2:=qv6 hw hp;rw[he,e2]at e1;exact h' (by rw[←e1,h0])
  ·exact qv6 a1 ((a2 p).2 (.inr ⟨hp,h0⟩))
 ·rename_i hk;have hk:p8 w k=false:=by simpa using hk
  by_cases hg:lh l k=V.nil
  ·rw[hg];by_cases hn:lh (qnd l w) k=V.nil
   ·exact hn
   ·have hm:=xhc hn;rcases(a2 _).1 hm with⟨h,_⟩|⟨h,_⟩
    ·have:=qv6 hl h;simp only at this;rw[hg]at this;exact this.symm
    ·exact(xiy.1 hk _ h rfl).elim
  ·have hm:=xhc hg;have:=qv6 a1 ((a2 _).2 (.inl ⟨hm,hk⟩));simpa using this
end Go.Cw
