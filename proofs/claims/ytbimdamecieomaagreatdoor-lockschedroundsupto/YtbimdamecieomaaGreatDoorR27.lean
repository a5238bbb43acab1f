/- Part 27 of a proof. -/
import Derived.Test.YtbimdamecieomaaGreatDoorR26
set_option linter.all false
namespace Go.Cw
open Go Go.Abs
theorem qcz{α:Type}:∀(l:List (g9×α)) (s k:g9) (v:α),jg (js l s v) k=if s=k then some v else jg l k
 | [],s,k,v=>by simp only[js,jg]
 |p::l,s,k,v=>by
  rw[js];split
  ·rename_i h;rw[jg,jg];subst h;split<;>rfl
  ·rename_i h;rw[jg,qcz l s k v,jg];split
   ·rename_i h2;subst h2;rw[if_neg (fun e=>h e.symm)]
   ·rfl
theorem xrj:∀(a b:List UInt8),(Go.Lib.compareBytes a b<0↔Op.bytesLess a b=true)∧(Go.Lib.compareBytes a b=0↔a=b)
 | [],[]=>by simp[Go.Lib.compareBytes,Op.bytesLess]
 | [],_::_=>by simp[Go.Lib.compareBytes,Op.bytesLess]
 |_::_,[]=>by simp[Go.Lib.compareBytes,Op.bytesLess]
 |x::a,y::b=>by
  have ih:=xrj a b;simp only[Go.Lib.compareBytes,Op.bytesLess,List.cons.injEq];split
  ·rename_i h;have:x≠y:=by rintro rfl;exact absurd h ae
   simp[h,this]
  ·rename_i h;split
   ·rename_i h2;have:x≠y:=by rintro rfl;exact absurd h2 ae
    simp[h,this]
   ·rename_i h2;have:x=y:=by
     apply UInt8.toNat_inj.1;have h3:¬x.toNat<y.toNat:=h;have h4:¬y.toNat<x.toNat:=h2;omega
    subst this;simp[ih]
theorem xf4(a b:g9):(qq1 a b<0↔ju a b=true)∧(qq1 a b=0↔a=b):=by
 have h:=xrj a.data.toList b.data.toList;have e:∀x:g9,x.toList=x.data.toList:=fun x=>by simp[ByteArray.toList_eq]
 refine⟨?_,?_⟩
 ·unfold qq1 ju;rw[e,e];exact h.1
 ·unfold qq1;rw[h.2];constructor
  ·intro he;have:a.data=b.data:=Array.toList_inj.1 he;cases a;cases b;simp_all
  ·rintro rfl;rfl
theorem jfj{p q:Pr}{l:List Pr}(h:ju q.key p.key=true):py (q::l) p=q::py l p:=by
 unfold py qul;simp only[rz,h,if_true,qlc,qk9,qlg];split<;>simp
theorem xc0(l:List Pr)(p:Pr)(k:g9):p8 (py l p) k=(decide (p.key=k)||p8 l k)∧lh (py l p) k=if p.key=k then p.v else lh l k:=by
 induction l with
 |nil=>simp[py,qul,rz,p8,mv,lh]
 |cons q l ih =>
  by_cases h:ju q.key p.key=true
  ·rw[jfj h];have ii:=qtj h;simp only[p8,mv,lh]at ih⊢;rw[ih.1,ih.2];refine⟨?_,?_⟩
   ·rw[←Bool.or_assoc,←Bool.or_assoc,Bool.or_comm (decide (q.key=k))]
   ·by_cases h1:q.key=k
    ·have:¬p.key=k:=fun e=>ii (h1.trans e.symm);simp[h1,this]
    ·simp[h1]
  ·have e0:rz p.key (q::l)=0:=by simp[rz,h]
   by_cases h1:q.key=p.key
   ·have:py (q::l) p=p::l:=by simp[py,qul,e0,h1]
    rw[this];simp only[p8,mv,lh,h1];refine⟨?_,?_⟩
    ·cases decide (p.key=k)<;>simp
    ·split<;>rfl
   ·have:py (q::l) p=p::q::l:=by simp[py,qul,e0,h1]
    rw[this];simp only[p8,mv,lh];exact⟨trivial,trivial⟩
theorem jnc(l:List Pr)(p:Pr):nu (py l p)=sq (nu l) p.key:=by
 have hp:=xp5 p.key l;unfold py sq qul;rw[←hp];have hg:(nu l)[rz p.key l]?=(l[rz p.key l]?).map Pr.key:=by simp[nu]
 rw[hg];split
 ·rename_i h;obtain⟨q,hq,hk⟩:=dn.1 h;obtain⟨ib,rfl⟩:=cq.1 hq;have e:l=l.take (rz p.key l)++l[rz p.key l]::l.drop (rz p.key l+1):=by
   rw[List.getElem_cons_drop,qlh]
  conv=>rhs;rw[e]
  simp only[nu,dz,c8,hk]
 ·simp[nu]
structure Sim(s:MS)(m:RM):Prop where
 vars:∀k,jg s.vars k=if p8 m.vars k=true then some (lh m.vars k)else none
 own:∀k,jg s.own k=if jk s.puts k=true then some (lh m.own k)else none
 keys:nu m.own=s.puts
 out:m.out=s.out
 reads:m.reads=s.reads
 puts:m.puts=s.puts
 steps:m.steps=s.steps
 st:m.st=0
 code:m.code=0
 miss:m.miss=em
structure Dead(z:Stop)(s:MS)(m:RM):Prop where
 reads:m.reads=s.reads
 puts:m.puts=s.puts
 steps:m.steps=s.steps
 out:m.out=[]
 st:m.st=z.status
 code:m.code=z.code
 miss:m.miss=z.miss
 ne:z.status≠0
theorem Sim.ab{s:MS}{m:RM}(h:Sim s m)(c:Int):Dead (ab c) s (m.ab c):=⟨h.reads,h.puts,h.steps,rfl,rfl,rfl,h.miss,by simp[Go.Cw.ab]⟩
theorem Sim.rst{s:MS}{m:RM}(h:Sim s m)(k:g9):Dead (rst k) s (m.rst k):=⟨h.reads,h.puts,h.steps,rfl,rfl,rfl,rfl,by simp[Go.Cw.rst]⟩
def EvSim(x:EV×MS)(y:V×RM):Prop:=match x.1 with
 | .ok v=>y.1=v∧Sim x.2 y.2
 | .error z=>y.1=V.nil∧Dead z x.2 y.2
theorem EvSim.ok{v:V}{s:MS}{m:RM}(h:Sim s m):EvSim (.ok v,s) (v,m):=⟨rfl,h⟩
theorem EvSim.ab{c:Int}{s:MS}{m:RM}(h:Sim s m):EvSim (.error (ab c),s) (V.nil,m.ab c):=⟨rfl,h.ab c⟩
theorem jju(l:List g9)(k x:g9):jk (sq l k) x=(decide (k=x)||jk l x):=by
 have h:∀a:Bool,∀P:Prop,(a=true↔P)→∀b:Bool,(b=true↔P)→a=b:=by
  intro a P h b g;cases a<;>cases b<;>simp_all
 refine h _ (x=k∨x∈l) (ux.trans qzh) _ ?_;simp only[fv,decide_eq_true_eq,ux];constructor<;>(rintro(rfl|h)<;>simp_all)
section
variable {C:Cfg}
theorem jdc{s:MS}{m:RM}(h:Sim s m)(k:g9):EvSim (r5 C k s) (od C m k):=by
 unfold r5 od;split
 ·exact .ab h
 have ho:=h.own k;rw[h.puts];by_cases hp:jk s.puts k=true
 ·rw[if_pos hp]at ho;rw[ho,if_pos hp];exact .ok h
 ·rw[if_neg hp]at ho;rw[ho,if_neg hp];simp only;split
  ·exact⟨rfl,h.rst k⟩
  ·exact⟨rfl,⟨h.vars,h.own,h.keys,h.out,by simp only[h.reads],rfl,h.steps,h.st,h.code,h.miss⟩⟩
def xje(x:Except Stop Unit×MS)(m:RM):Prop:=match x.1 with
 | .ok _=>Sim x.2 m
 | .error z=>Dead z x.2 m
theorem xym{s:MS}{m:RM}(h:Sim s m)(k:g9)(v:V):xje (qz C k v s) (qm7 C m k v):=by
 unfold qz qm7;split
 ·exact h.ab _
 split
 ·exact h.rst k
 ·refine⟨h.vars,fun x=>?_,?_,h.out,h.reads,by simp only[h.puts],h.steps,h.st,h.code,h.miss⟩
  ·simp only;rw[qcz,(xc0 _ _ _).2,jju];by_cases hx:k=x
   ·simp[hx]
   ·simp[hx,h.own x]
  ·simp only;rw[jnc,h.keys]
theorem jjy{s:MS}{m:RM}(h:Sim s m)(hl:s.out.length≤16)(v:V):xje (uj v s) (qqp m v):=by
 unfold uj qqp;rw[h.out];by_cases hk:s.out.length=16
 ·rw[if_pos hk,if_pos aa];exact h.ab _
 ·rw[if_neg hk,if_neg aa];exact⟨h.vars,h.own,h.keys,by simp only,h.reads,h.puts,h.steps,h.st,h.code,h.miss⟩
theorem jng{s:MS}{m:RM}(h:Sim s m)(hs:s.steps≤16384):xje (qq s) (qu m):=by
 unfold qq qu;have e:jt (m.steps+1)=(s.steps+1:Nat):=by rw[h.steps,qrx aa aa];simp
 rw[e];have h':Sim { s with steps:=s.steps+1 } { m with steps:=((s.steps+1:Nat):Int) }:=⟨h.vars,h.own,h.keys,h.out,h.reads,h.puts,rfl,h.st,h.code,h.miss⟩
 by_cases hk:16384<s.steps+1
 ·rw[if_pos hk,if_pos aa];exact h'.ab 1008
 ·rw[if_neg hk,if_neg aa];exact h'
theorem xp8{s:MS}{m:RM}(h:Sim s m)(r:Int×Int):EvSim (sj r,s) (zx m r):=by
 unfold sj zx;by_cases h0:r.2=0
 ·rw[if_pos h0,if_neg aa,if_neg aa];exact .ok h
 ·rw[if_neg h0];by_cases h4:r.2=4
  ·rw[if_pos h4,if_pos h4];exact .ab h
  ·rw[if_neg h4,if_neg h4,if_pos h0];exact .ab h
theorem xg5{v:V}(h:oz v)(hk:v.k=1):v.s=em:=by
 unfold oz qs4 vj at h;simpa[hk]using h
theorem xdo{v:V}(h:oz v)(hk:v.k=2):v.n=0∧(v.s.size:Int)≤64:=by
 have:=xmn h hk;unfold ml at this;unfold oz qs4 vj at h;simp[hk]at h;simp only[c0,decide_eq_true_eq]at this;exact⟨h.1,this.2⟩
theorem xla{v:V}(h:oz v)(hk:v.k=3):v.s=em∧(v.n=0∨v.n=1):=by
 unfold oz qs4 at h;simp[hk]at h;exact⟨h.2,h.1⟩
theorem jft(a b:V):ug a b=true↔a.k=b.k∧a.n=b.n∧a.s=b.s:=by
 simp[ug]
theorem xx2{op c d:Int}(h1:c<0↔d<0)(h2:c=0↔d=0):y8 op c=y8 op d:=by
 unfold y8;have h3:0<c↔0<d:=aa;have h4:c≤0↔d≤0:=aa;have h5:0≤c↔0≤d:=aa;simp only[h1,h2,h3,h4,h5]
theorem jir{a b:V}(ha:oz a)(hb:oz b)(hk:a.k=b.k)(h:a.k=1∨a.k=2∨a.k=3):(qp5 a b<0↔qti a b<0)∧(qp5 a b=0↔qti a b=0):=by
 have hc:=xf4 a.s b.s;have hee:=xf4 em em;have hirr:=qbx em;have key:(a.s=b.s∧a.s=em)∨a.n=b.n:=by
  rcases h with h|h|h
  ·exact .inl ⟨by rw[xg5 ha h,xg5 hb aa],xg5 ha h⟩
  ·exact .inr (by rw[(xdo ha h).1,(xdo hb aa).1])
  ·exact .inl ⟨by rw[(xla ha h).1,(xla hb aa).1],(xla ha h).1⟩
 have e1:=jft a b;unfold qp5 qti qtw;rw[if_neg aa];rcases key with⟨k1,k2⟩|k
 ·have hl:ju a.s b.s=false:=by rw[←k1,qbx]
  have h0:qq1 a.s b.s=0:=hc.2.2 k1;rw[hl,h0];by_cases hn:a.n=b.n
  ·have:ug a b=true:=e1.2 ⟨hk,hn,k1⟩;simp[hn,this]
  ·have:¬ug a b=true:=fun h=>hn (e1.1 h).2.1;simp only[hn,if_false,this];by_cases h1:a.n<b.n
   ·simp[h1]
   ·have h2:b.n<a.n:=aa;simp[h1,h2]
 ·rw[if_pos k];by_cases hl:ju a.s b.s=true
  ·have h1:=hc.1.2 hl;simp only[hl,or_true,if_true];have h2:¬qq1 a.s b.s=0:=aa;simp[h1,h2]
  ·have h1:¬qq1 a.s b.s<0:=fun h=>hl (hc.1.1 h);have h2:¬a.n<b.n:=aa;simp only[hl,or_false];by_cases he:a.s=b.s
   ·have h3:=hc.2.2 he;have:ug a b=true:=e1.2 ⟨hk,k,he⟩;simp[this,h3,h2]
   ·have h3:¬qq1 a.s b.s=0:=fun h=>he (hc.2.1 h);have:¬ug a b=true:=fun h=>he (e1.1 h).2.2;rw[if_neg qjf,if_neg this];exact⟨⟨fun h=>(h1 h).elim,fun h=>by omega⟩,⟨fun h=>(h3 h).elim,fun h=>by omega⟩⟩
theorem jkt{s:MS}{m:RM}(h:Sim s m){op:Int}{a b:V}(ha:oz a)(hb:oz b)(jy:(4≤op∧op≤8)∨(10≤op∧op≤17)∨op=19):EvSim (s8 op a b,s) (yi m op a b):=by
 unfold s8 yi;by_cases h1:op=4∨op=5∨op=6∨op=7∨op=8
 ·rw[if_pos h1,if_pos h1];by_cases hk:a.k=1∧b.k=1
  ·rw[if_pos hk,if_pos hk];unfold yc qoy
   repeat' split
   all_goals exact xp8 h _
  ·rw[if_neg hk,if_neg hk];exact .ab h
 rw[if_neg h1,if_neg h1];by_cases h2:op=16
 ·rw[if_pos h2,if_pos h2];split
  ·exact .ok h
  ·exact .ab h
 rw[if_neg h2,if_neg h2];by_cases h3:op=17
 ·rw[if_pos h3,if_pos h3];split
  ·exact .ok h
  ·exact .ab h
 rw[if_neg h3,if_neg h3];by_cases h4:op=19
 ·rw[if_pos h4,if_pos h4];by_cases hk:a.k=2∧b.k=2
  ·rw[if_pos hk,if_pos hk];unfold wq;have l1:=(xdo ha hk.1).2;have l2:=(xdo hb hk.2).2;have e:jt (a.s.size+b.s.size:Int)=((a.s++b.s).size:Int):=by
    rw[qmj,qrx aa aa];simp
   rw[e];split
   ·exact .ab h
   ·exact .ok h
  ·rw[if_neg hk,if_neg hk];exact .ab h
 rw[if_neg h4,if_neg h4];unfold qtr;by_cases hk:a.k=b.k∧(a.k=1∨a.k=2∨(a.k=3∧op≤11))
 ·rw[if_pos hk,if_pos aa];have hc:=jir ha hb hk.1 aa;rw[xx2 hc.1 hc.2];exact .ok h
 ·rw[if_neg hk,if_neg aa];exact .ab h
end
structure LsStep(fs:List Foot)(choices:List Int)(n j q:Nat):Prop where
 ne:0<(qoa fs (p7 fs choices n)).length
 ch:quv choices n (qoa fs (p7 fs choices n)).length=q
 lq:q<(qoa fs (p7 fs choices n)).length
 get:(qoa fs (p7 fs choices n))[q]?=some j
 lt:j<fs.length
 left:j∈qri fs.length (p7 fs choices n)
 nxt:p7 fs choices (n+1)=p7 fs choices n++[j]
theorem xp4{fs:List Foot}{choices:List Int}{n:Nat}(h:n<fs.length):∃j q,LsStep fs choices n j q:=by
 obtain⟨i1,i2⟩:=xd9 fs choices n aa;have ii:=xp7 i1 aa;have ib:=xot (choices:=choices) (step:=n) ii;have hm:=c9 ib;have hg:=da ib;obtain⟨j,hj⟩:∃j,(qoa fs (p7 fs choices n))[quv choices n (qoa fs (p7 fs choices n)).length]=j:=⟨_,rfl⟩
 rw[hj]at hm hg;have hm2:=hm;unfold qoa at hm2;obtain⟨m1,m2⟩:=fe.1 hm2;have hlj:=eh.1 m1;refine⟨j,_,ii,rfl,ib,hg,hlj,?_,?_⟩
 ·unfold qri;refine fe.2 ⟨m1,?_⟩;rw[c0]at m2;exact m2.1
 ·show p7 fs choices n++[_]=_;rw[fg,hg];rfl
section
variable {fmt:Int→g9} {procs:List Proc} {s:List Pr} {l:List Txn} {choices:List Int}
def lsX(fmt:Int→g9)(procs:List Proc)(s:List Pr)(l:List Txn)(choices:List Int)(n:Nat):List Pr×List Eff:=exO fmt procs s l (p7 (kz l) choices n)
theorem xpx:lsX fmt procs s l choices 0=(s,List.replicate l.length qw9):=rfl
theorem xcg(l:List Txn):(kz l).length=l.length:=ae
theorem xrd{n j q:Nat}(h:LsStep (kz l) choices n j q)(hj:j<l.length):lsX fmt procs s l choices (n+1)=((ov fmt procs (lsX fmt procs s l choices n).1 l[j]).1,(lsX fmt procs s l choices n).2.set j (ov fmt procs (lsX fmt procs s l choices n).1 l[j]).2):=by
 unfold lsX;rw[h.nxt,xig,xjz hj]
theorem xht(hB:BatchIn fmt procs l)(hs:p9 s)(n:Nat)(h:n≤l.length):p9 (lsX fmt procs s l choices n).1∧(lsX fmt procs s l choices n).1.length≤s.length+64 * n∧(lsX fmt procs s l choices n).2.length=l.length∧(p7 (kz l) choices n).length=n:=by
 obtain⟨h1,h2⟩:=xd9 (kz l) choices n bh;have h3:=xj3 (fmt:=fmt) (procs:=procs) (s:=s) hB hs h1;have h4:=h3.len;rw[h2]at h4;exact⟨h3.rng,h4,h3.cnt,h2⟩
theorem xqq(hB:BatchIn fmt procs l)(hs:p9 s):lsX fmt procs s l choices l.length=nc fmt procs s l:=by
 obtain⟨h1,h2⟩:=xd9 (kz l) choices l.length ae;exact xsp hB hs h1 (by rw[h2])
def rpX(fmt:Int→g9)(procs:List Proc)(s:List Pr)(l:List Txn)(order:List Int)(n:Nat):List Pr×List Eff:=exO fmt procs s l ((order.map Int.toNat).take n)
theorem xs3{order:List Int}:rpX fmt procs s l order 0=(s,List.replicate l.length qw9):=rfl
theorem xsc{fs:List Foot}{order:List Int}(h:v7 fs order=true){n:Nat}(hn:n<order.length):order[n].toNat<fs.length∧0≤order[n]:=by
 obtain⟨⟨h1,h2,h3⟩,h4⟩:=xcj.1 h;have:=h2 _ (c9 hn);omega
theorem xso{order:List Int}{n:Nat}(hn:n<order.length)(hj:order[n].toNat<l.length):rpX fmt procs s l order (n+1)=((ov fmt procs (rpX fmt procs s l order n).1 l[order[n].toNat]).1,(rpX fmt procs s l order n).2.set order[n].toNat (ov fmt procs (rpX fmt procs s l order n).1 l[order[n].toNat]).2):=by
 unfold rpX;rw[eg (by simpa using hn),xig,List.getElem_map,xjz hj]
theorem xqt(hB:BatchIn fmt procs l)(hs:p9 s){order:List Int}(ho:v7 (kz l) order=true)(n:Nat)(h:n≤order.length):p9 (rpX fmt procs s l order n).1∧(rpX fmt procs s l order n).1.length≤s.length+64 * n∧(rpX fmt procs s l order n).2.length=l.length:=by
 have h3:=xj3 (fmt:=fmt) (procs:=procs) (s:=s) hB hs (ja0 (xiv ho).1 n);have h4:=h3.len;rw[du,ew,gj h]at h4;exact⟨h3.rng,h4,h3.cnt⟩
theorem xsf(hB:BatchIn fmt procs l)(hs:p9 s){order:List Int}(ho:v7 (kz l) order=true):rpX fmt procs s l order order.length=nc fmt procs s l:=by
 unfold rpX;rw[fo ae];exact xsp hB hs (xiv ho).1 (by rw[ew,(xiv ho).2,xcg])
end
abbrev qr6(l:List Txn)(choices:List Int)(n:Nat):List Int:=(p7 (kz l) choices n).map Int.ofNat
def qso{α β:Type}(z:α)(f:β→α)(l:List β)(n:Nat):List α:=(l.take n).map f++List.replicate (l.length - n) z
theorem xss{α β:Type}{z:α}{f:β→α}{l:List β}{n:Nat}(h:n≤l.length):(qso z f l n).length=l.length:=by
 unfold qso;rw[cz,ew,du,List.length_replicate];omega
theorem xo1{α β:Type}{z:α}{f:β→α}{l:List β}:qso z f l 0=List.replicate l.length z:=by simp[qso]
theorem xxb{α β:Type}{z:α}{f:β→α}{l:List β}:qso z f l l.length=l.map f:=by simp[qso]
theorem xwx{α β:Type}{z:α}{f:β→α}{l:List β}{n:Nat}(h:n<l.length):(qso z f l n).set n (f l[n])=qso z f l (n+1):=by
 have h1:l.length - n=(l.length - (n+1))+1:=aa;have h2:((l.take n).map f).length=n:=by rw[ew,du];omega
 unfold qso;rw[eg h,dz,h1,List.replicate_succ,fq _ _ aa,h2,ff,List.set_cons_zero,dr];rfl
theorem jbp(fs:List Foot)(i j:Nat):pk (fs.map nw) i j=pk fs i j:=by
 unfold pk;rw[dq,dq];rcases fs[i]? with _|x<;>rcases fs[j]? with _|y<;>simp[xwp]
theorem joe(fs:List Foot)(order:List Int):v7 (fs.map nw) order=v7 fs order:=by
 rw[Bool.eq_iff_iff,xcj,xcj,ew];simp only[jbp]
section
variable {fmt:Int→g9}
theorem xfe{procs:List Proc}{l:List Txn}{s:List Pr}(hB:BatchIn fmt procs l)(hs:p9 s){t:Txn}(ht:t∈l):∀p,qqa procs t=some p→RunIn fmt p t.args s:=fun p hp=>⟨hB.fmt,hB.body p (xjj hp).1,hB.args t ht,hs⟩
end
def mN(L n:Nat):List Int:=List.replicate n (-1)++List.replicate (L - n) 0
theorem jnx{L n:Nat}(h:n≤L):(mN L n).length=L:=by simp[mN];omega
theorem jhq(L:Nat):mN L 0=List.replicate L 0:=by simp[mN]
theorem jdt(L:Nat):mN L L=List.replicate L (-1):=by simp[mN]
theorem jmh{L n:Nat}(h:n<L):(mN L n).set n (-1)=mN L (n+1):=by
 unfold mN;obtain⟨k,hk⟩:∃k,L - n=k+1:=⟨L - n - 1,aa⟩
 rw[hk,show L - (n+1)=k by omega,List.replicate_succ,List.replicate_succ'];simp[List.set_append]
theorem jm4{α:Type}(p:α→Bool)(x:α):([x].filter p).length=if p x=true then 1 else 0:=by
 by_cases h:p x=true<;>simp[h]
def cI(m:List Int)(C:Nat→Nat→Bool)(j i:Nat):Nat:=((List.range i).filter fun i=>decide (m.getD j (-1)<m.getD i (-1))&&C i j).length
theorem jm8(m:List Int)(C:Nat→Nat→Bool)(j:Nat):cI m C j 0=0:=by simp[cI]
theorem xj4(m:List Int)(C:Nat→Nat→Bool)(j i:Nat):cI m C j (i+1)=cI m C j i+if (decide (m.getD j (-1)<m.getD i (-1))&&C i j)=true then 1 else 0:=by
 unfold cI;rw[List.range_succ,gw,cz,jm4]
theorem jit(m:List Int)(C:Nat→Nat→Bool):qr0 m C 0=0:=by simp[qr0,upP]
theorem xhe(m:List Int)(C:Nat→Nat→Bool)(j:Nat):qr0 m C (j+1)=qr0 m C j+cI m C j j:=by
 unfold qr0 cI;rw[xnk,gw,cz,List.filter_map,ew];rfl
def qv3(order:List Int)(N:Nat):Option (List Int):=if order.length=N then atF N order 0 (List.replicate N (-1))else none
theorem xsu{n:Nat}:∀(o:List Int) (i:Nat) (m m':List Int),atF n o i m=some m'→m'.length=m.length
 | [],i,m,m',h=>by rw[atF]at h;cases h;rfl
 |k::o,i,m,m',h=>by
  rw[atF]at h;split at h
  ·cases h
  ·rw[xsu o _ _ _ h,List.length_set]
theorem jg0{order m:List Int}{n:Nat}(h:qv3 order n=some m):m.length=n:=by
 unfold qv3 at h;split at h
 ·rw[xsu _ _ _ _ h,List.length_replicate]
 ·cases h
theorem jlg(fs:List Foot)(order:List Int):v7 fs order=match qv3 order fs.length with
  |none=>false
  |some m=>decide (qr0 m (pk fs) fs.length=0):=by
 unfold v7 qv3;by_cases h:order.length=fs.length
 ·rw[if_pos h];have hs:=xgt order [] _ (Pl.nil fs.length);simp only[ee]at hs;rcases hA:atF fs.length order 0 (List.replicate fs.length (-1))with _|m
  ·have h1:qrv order fs.length=false:=by
    rcases gn (qrv order fs.length)with g|g
    ·exact(hs.2 hA ((qwz _ _).1 g).2).elim
    ·exact g
   rw[h1];rfl
  ·have h1:qrv order fs.length=true:=(qwz _ _).2 ⟨h,(hs.1 m hA).1⟩;rw[h1,fh];unfold xbe;rw[hA];simp[h]
 ·rw[if_neg h];have h1:qrv order fs.length=false:=by
   rcases gn (qrv order fs.length)with g|g
   ·exact(h ((qwz _ _).1 g).1).elim
   ·exact g
  rw[h1];rfl
theorem xpo(m:List Int)(C:Nat→Nat→Bool)(j i:Nat):∀d,cI m C j i≤cI m C j (i+d)
 | 0=>ct _
 |d+1=>by
  have:=xpo m C j i d;rw[←qli,xj4];omega
theorem xqr(m:List Int)(C:Nat→Nat→Bool)(i:Nat):∀d,qr0 m C i≤qr0 m C (i+d)
 | 0=>ct _
 |d+1=>by
  have:=xqr m C i d;rw[←qli,xhe];omega
theorem xys{m:List Int}{C:Nat→Nat→Bool}{i j n:Nat}(hij:i<j)(hj:j<n)(h:(decide (m.getD j (-1)<m.getD i (-1))&&C i j)=true):¬qr0 m C n=0:=by
 have h1:=xj4 m C j i;rw[if_pos h]at h1;have h2:=xpo m C j (i+1) (j - (i+1));rw[show i+1+(j - (i+1))=j by omega]at h2;have h3:=xqr m C (j+1) (n - (j+1));rw[show j+1+(n - (j+1))=n by omega,xhe]at h3;omega
abbrev vi(order:List Int)(i:Nat):Int:=ni (fun y=>decide (y=(i:Int))) order
theorem xnf(order:List Int)(i:Nat):vi order i = -1∧(i:Int)∉order∨∃(p:Nat) (hp:p<order.length),vi order i=(p:Int)∧order[p]=(i:Int):=by
 rcases qzt (fun y=>decide (y=(i:Int))) order with⟨h1,h2⟩|⟨p,hp,h1,h2⟩
 ·refine .inl ⟨h1,fun hm=>?_⟩;have:=qms.1 h2 _ hm;simp at this
 ·refine .inr ⟨p,hp,h1,?_⟩;have:=List.find?_some h2;simpa using this
theorem xac{order:List Int}{i:Nat}(h:0≤vi order i):∃(p:Nat) (hp:p<order.length),vi order i=(p:Int)∧order[p]=(i:Int):=by
 rcases xnf order i with⟨h1,_⟩|h1
 ·omega
 ·exact h1
theorem xx3(fs:List Foot)(order:List Int):v7 fs order=true↔order.length=fs.length∧(∀i,i<fs.length→0≤vi order i)∧∀a b,a<b→b<fs.length→pk fs a b=true→vi order a≤vi order b:=by
 rw[xcj];constructor
 ·rintro⟨⟨h1,h2,h3⟩,h4⟩;simp only[ej]at h3;have ib:∀x∈order.map Int.toNat,x<fs.length:=fun x hx=>by
   obtain⟨k,hk,rfl⟩:=dk.1 hx;have:=h2 k hk;omega
  have ix:=xbl h3 ib av;have kq:∀i,i<fs.length→0≤vi order i:=fun i hi=>by
   rcases xnf order i with⟨_,g⟩|⟨p,hp,g,_⟩
   ·exfalso;obtain⟨k,hk,e⟩:=dk.1 (ix i hi);have:=h2 k hk;have e2:k=(i:Int):=aa;exact g (e2▸hk)
   ·omega
  refine⟨h1,kq,fun a b wt hb hc=>?_⟩;obtain⟨p,hp,e1,e2⟩:=xac (kq a aa);obtain⟨q,hq,e3,e4⟩:=xac (kq b hb);rw[e1,e3];refine qmi fun hn=>?_;have:=h4 q p aa hp;rw[getD_at hp,getD_at hq,e2,e4]at this;simp only[qld]at this;rw[xh9,hc]at this;rcases this with g|g
  ·omega
  ·cases g
 ·rintro⟨h1,h2,h3⟩;have hL:((List.range fs.length).map fun i=>(vi order i).toNat).Nodup:=by
   rw[List.nodup_iff_pairwise_ne,List.pairwise_map];refine List.Pairwise.imp_of_mem (R:=fun a b=>a<b) (fun {a b} ha hb wt e=>?_) List.pairwise_lt_range;obtain⟨p,hp,e1,e2⟩:=xac (h2 a (eh.1 ha));obtain⟨q,hq,e3,e4⟩:=xac (h2 b (eh.1 hb));have:p=q:=aa;subst this;rw[e2]at e4;omega
  have ib:∀x∈(List.range fs.length).map (fun i=>(vi order i).toNat),x<fs.length:=fun x hx=>by
   obtain⟨i,hi,rfl⟩:=dk.1 hx;obtain⟨p,hp,e1,e2⟩:=xac (h2 i (eh.1 hi));omega
  have ix:=xbl hL ib ae;have key:∀p (hp:p<order.length),∃i,i<fs.length∧order[p]=(i:Int)∧vi order i=(p:Int):=fun p hp=>by
   obtain⟨i,hi,e⟩:=dk.1 (ix p aa);obtain⟨q,hq,e1,e2⟩:=xac (h2 i (eh.1 hi));have:q=p:=aa;subst this;exact⟨i,eh.1 hi,e2,e1⟩
  refine⟨⟨h1,fun k hk=>?_,?_⟩,fun a b wt hb=>?_⟩
  ·obtain⟨p,hp,rfl⟩:=qme.1 hk;obtain⟨i,hi,e,_⟩:=key p hp;rw[e];omega
  ·simp only[ej];rw[List.nodup_iff_pairwise_ne,List.pairwise_map,qmp];intro a b ha hb wt e;obtain⟨i,hi,e1,e2⟩:=key a ha;obtain⟨j,hj,e3,e4⟩:=key b hb;rw[e1,e3]at e;simp only[qld]at e;subst e;omega
  ·obtain⟨i,hi,e1,e2⟩:=key a aa;obtain⟨j,hj,e3,e4⟩:=key b hb;rw[getD_at aa,getD_at hb,e1,e3];simp only[qld];rcases qmc i j with g|g|g
   ·exact .inl aa
   ·subst g;omega
   ·right;rcases hx:pk fs i j with _|_
    ·rfl
    ·rw[xh9]at hx;have:=h3 j i g hi hx;omega
section
variable {fmt:Int→g9} {p:Proc} {args:List V} {st:List Pr}
end
section
variable (fmt:Int→g9)
structure Res where
 id:Int
 att:Int
 status:Int
 code:Int
 out:List V
def Res.c(r:Res):List AV:=[I r.id,I r.att,I r.status,I r.code,.slice (r.out.map V.c)]
def Res.z:Res:=⟨0,0,0,0,[]⟩
end
section
variable {fmt:Int→g9}
end
section
variable {fmt:Int→g9}
structure Tal(L:List Txn)(l:List Txn)(is:List Nat)(out:List Res):Prop where
 len:is.length=l.length
 ol:out.length=L.length
 nod:is.Nodup
 lt:∀i∈is,i<L.length
 id:∀j (h:j<l.length) (h':j<is.length) (h2:is[j]<L.length),l[j].id=L[is[j]].id
 done:∀i (h:i<L.length) (h':i<out.length),i∈is∨(out[i].id=L[i].id∧(out[i].status=1∨out[i].status=2))
end
section
variable {C:Cfg}
theorem EvSim.okI{x:EV}{v w:V}{s:MS}{m:RM}(h:Sim s m)(hx:x=.ok v)(hw:w=v):EvSim (x,s) (w,m):=by subst hx hw;exact⟨rfl,h⟩
theorem jfb{s':MS}{m':RM}(h:Sim s' m')(op:Int)(v:V)(jy:op=22∨op=23∨op=24) :
  EvSim (wd op v,s') (if op=24 then(vB (!decide (v.k=0)),m')else if v.k=0 then(⟨if op=23 then 2 else 1,0,em⟩,m')else if v.k≠(if op=23 then 2 else 1)then(V.nil,m'.ab 1003)else(v,m')):=by
 rcases jy with rfl|rfl|rfl
 ·by_cases h0:v.k=0
  ·simp only[wd,h0];exact .okI h rfl rfl
  ·by_cases h1:v.k=1
   ·simp only[wd,h1];exact .okI h rfl rfl
   ·simp[wd,h0,h1];exact .ab h
 ·by_cases h0:v.k=0
  ·simp only[wd,h0];exact .okI h rfl rfl
  ·by_cases h1:v.k=2
   ·simp only[wd,h1];exact .okI h rfl rfl
   ·simp[wd,h0,h1];exact .ab h
 ·simp only[wd];exact .okI h rfl rfl
theorem jgh{s:MS}{m:RM}(h:Sim s m){op:Int}{a:V}(ha:oz a)(hr:kp a)(hf:∀n,i64 n→ml (C.fmt n)=true)(jy:op=9∨op=18∨op=20∨op=21∨op=22∨op=23∨op=24):EvSim (rr C op a s) (tq C m op a):=by
 have hfe:a.k=2→(op=22∨op=23∨op=24)→EvSim (rr C op a s) (tq C m op a):=by
  intro hk ho;have hf:=jdc (C:=C) h a.s;have hw:qr7 op=2:=by rcases ho with rfl|rfl|rfl<;>rfl
  have e1:rr C op a s=match r5 C a.s s with
   |(.error z,m')=>(.error z,m')
   |(.ok v,m')=>(wd op v,m'):=by
   unfold rr;rw[if_neg aa,if_neg aa,if_neg aa,if_neg aa,if_neg qil];rfl
  have e2:tq C m op a=if (od C m a.s).2.st≠0 then(V.nil,(od C m a.s).2)else if op=24 then(vB (!decide ((od C m a.s).1.k=0)),(od C m a.s).2)else if (od C m a.s).1.k=0 then(⟨if op=23 then 2 else 1,0,em⟩,(od C m a.s).2)else if (od C m a.s).1.k≠(if op=23 then 2 else 1)then(V.nil,(od C m a.s).2.ab 1003)else((od C m a.s).1,(od C m a.s).2):=by
   unfold tq;rw[if_neg (by rw[hw];simp[hk]),if_neg aa,if_neg aa,if_neg aa,if_neg aa]
  rw[e1,e2];rcases hx:r5 C a.s s with⟨z|v,s'⟩<;>rw[hx]at hf
  ·have hf:(od C m a.s).1=V.nil∧Dead z s' (od C m a.s).2:=hf;rw[if_pos (by rw[hf.2.st];exact hf.2.ne)];exact⟨rfl,hf.2⟩
  ·have hf:(od C m a.s).1=v∧Sim s' (od C m a.s).2:=hf;rw[if_neg (by rw[hf.2.st];simp),hf.1];exact jfb hf.2 op v ho
 rcases jy with rfl|rfl|rfl|rfl|ho
 ·by_cases hk:a.k=1
  ·simpa[rr,tq,qr7,hk]using xp8 h (wj a.n)
  ·simpa[rr,tq,qr7,hk]using(EvSim.ab (c:=1009) h)
 ·by_cases hk:a.k=3
  ·simpa[rr,tq,qr7,hk]using(EvSim.ok (v:=vB (decide (a.n=0))) h)
  ·simpa[rr,tq,qr7,hk]using(EvSim.ab (c:=1009) h)
 ·by_cases hk:a.k=1
  ·have hp:=hf _ hr.1;unfold ml at hp;simp only[c0,decide_eq_true_eq]at hp;have ht:wq (C.fmt a.n)=.ok (vS (C.fmt a.n)):=by unfold wq;rw[if_neg aa]
   simpa[rr,tq,qr7,hk,ht]using(EvSim.ok (v:=vS (C.fmt a.n)) h)
  ·simpa[rr,tq,qr7,hk]using(EvSim.ab (c:=1009) h)
 ·by_cases hk:a.k=2
  ·simpa[rr,tq,qr7,hk]using(EvSim.ok (v:=vI a.s.size) h)
  ·simpa[rr,tq,qr7,hk]using(EvSim.ab (c:=1009) h)
 ·by_cases hk:a.k=2
  ·exact hfe hk ho
  ·have e1:rr C op a s=(.error (ab 1009),s):=by
    unfold rr;rw[if_neg aa,if_neg aa,if_neg aa,if_neg aa,if_pos qil]
   have hw:qr7 op=2:=by rcases ho with rfl|rfl|rfl<;>rfl
   have e2:tq C m op a=(V.nil,m.ab 1009):=by
    unfold tq;rw[if_pos (by rw[hw];simp[hk])]
   rw[e1,e2];exact .ab h
theorem xyo{s:MS}{m:RM}(h:Sim s m){op:Int}{l:List V}(hl:∀v∈l,oz v)(hr:∀v∈l,kp v)(hf:∀n,i64 n→ml (C.fmt n)=true)(qt:(l.length:Int)=me op):EvSim (ul C op l s) (opR C m op l):=by
 match l with
 | []=>exact .ab h
 | [a] =>
  refine jgh h (hl a ae) (hr a ae) hf ?_;unfold me at qt;simp at qt;split at qt
  ·omega
  split at qt
  ·omega
  split at qt
  ·omega
  ·omega
 | [a,b] =>
  refine jkt h (hl a ae) (hl b ae) ?_;unfold me at qt;simp at qt;split at qt
  ·omega
  split at qt
  ·omega
  split at qt
  ·omega
  ·omega
 |a::b::c::r=>exact .ab h
section
variable (hV:vC C) (hC:ur C)
include hV hC
mutual
theorem xxe:∀(e:Ex) (d:Nat) (s:MS) (m:RM),mg e d=0→su e→vM s→qpc s→jp s.reads→Sim s m→EvSim (kx C e s) (jj C e m)
 | .mk op n x args,d,s,m,hc,hR,hM,hr,ha,h=>by
  have qt:=qez hc;have yv:=(qvc _).1 hR;simp only[Ex.args,Ex.op,Ex.n,Ex.s]at qt yv;rw[mg]at hc;by_cases hn:vk op n x args.length d=0
  ·rw[if_pos hn]at hc;rw[kx,jj];by_cases h1:op=1
   ·rw[if_pos h1,if_pos h1];exact .ok h
   rw[if_neg h1,if_neg h1];by_cases h2:op=2
   ·rw[if_pos h2,if_pos h2];exact .ok h
   rw[if_neg h2,if_neg h2];by_cases h3:op=3
   ·rw[if_pos h3,if_pos h3];have hv:=h.vars x;by_cases hp:p8 m.vars x=true
    ·rw[if_pos hp]at hv;rw[hv,if_pos hp];exact .ok h
    ·rw[if_neg hp]at hv;rw[hv,if_neg hp];exact .ab h
   rw[if_neg h3,if_neg h3];have hS:=xt3 args (d+1) s m hc yv.2 hM hr ha h;have hE:=xdj hC args s yv.2 hr ha;rcases hL:m6 C args s with⟨z|l,s'⟩
   ·rw[hL]at hS;have hS:Dead z s' (un C args m).2:=hS;simp only;rw[if_pos qkg];exact⟨rfl,hS⟩
   ·rw[hL]at hS hE;have hS:(un C args m).1=l∧Sim s' (un C args m).2:=hS;simp only;rw[if_neg (by rw[hS.2.st];simp),hS.1];have hl:=xja hV hC args (d+1) s s' l hc yv.2 hM hr ha hL;exact xyo hS.2 hl (hE.2 l rfl) hV.fmt qjw
  ·rw[if_neg hn]at hc;exact(hn hc).elim
theorem xt3:∀(l:List Ex) (d:Nat) (s:MS) (m:RM),vq l d=0→(∀x∈l,su x)→vM s→qpc s→jp s.reads→Sim s m →
  (match (m6 C l s).1 with
   | .ok r=>(un C l m).1=r∧Sim (m6 C l s).2 (un C l m).2
   | .error z=>Dead z (m6 C l s).2 (un C l m).2)
 | [],d,s,m,_,_,_,_,_,h=>by rw[m6,un];exact⟨rfl,h⟩
 |e::l,d,s,m,hc,hR,hM,hr,ha,h=>by
  rw[vq]at hc;split at hc
  ·rename_i h0;have wz:=qpl hC e s (hR e ae) hr ha;have hS:=xxe e d s m h0 (hR e ae) hM hr ha h;rw[m6,un];rcases hE:kx C e s with⟨z|v,s'⟩
   ·rw[hE]at hS;have hS:(jj C e m).1=V.nil∧Dead z s' (jj C e m).2:=hS;simp only;rw[if_pos (by rw[hS.2.st];exact hS.2.ne)];exact hS.2
   ·rw[hE]at hS wz;have hS:(jj C e m).1=v∧Sim s' (jj C e m).2:=hS;simp only;rw[if_neg (by rw[hS.2.st];simp)];have hT:=xt3 l d s' (jj C e m).2 hc (fun x hx=>hR x bt) (qre wz.1 hM) (wz.1.rng hr) wz.1.asc hS.2;rcases hL:m6 C l s' with⟨z|r,s''⟩
    ·rw[hL]at hT;exact hT
    ·rw[hL]at hT;have hT:(un C l (jj C e m).2).1=r∧Sim s'' (un C l (jj C e m).2).2:=hT;exact⟨by rw[hS.1,hT.1],hT.2⟩
  ·contradiction
end
end
end
end Go.Cw
