/- Part 25 of a proof. -/
import Derived.Test.YtbimdamecieomaaGreatDoorR24
set_option linter.all false
namespace Go.Cw
open Go Go.Abs
def atF(n:Nat):List Int→Nat→List Int→Option (List Int)
 | [],_,m=>some m
 |k::o,i,m=>if k<0∨(n:Int)≤k∨0≤m.getD k.toNat (-1)then none else atF n o (i+1) (m.set k.toNat i)
def xar(n:Nat):List Int→List Bool→Bool
 | [],_=>true
 |k::o,m=>if k<0∨(n:Int)≤k∨m.getD k.toNat false=true then false else xar n o (m.set k.toNat true)
structure Pl(n:Nat)(q:List Nat)(m:List Int):Prop where
 la:m.length=n
 lt:∀k∈q,k<n
 nod:q.Nodup
 ok:∀a (h:a<q.length),m.getD q[a] (-1)=a
 no:∀k,k∉q→m.getD k (-1) = -1
theorem xi8{α:Type}(m:List α)(k j:Nat)(v d:α)(h:k<m.length):(m.set k v).getD j d=if k=j then v else m.getD j d:=by
 simp only[fg,List.getElem?_set];split
 ·simp[h]
 ·rfl
theorem Pl.mem{n:Nat}{q:List Nat}{m:List Int}(h:Pl n q m)(k:Nat):0≤m.getD k (-1)↔k∈q:=by
 constructor
 ·intro h0;by_cases hk:k∈q
  ·exact hk
  ·rw[h.no k hk]at h0;omega
 ·intro hk;obtain⟨a,ha,rfl⟩:=qme.1 hk;rw[h.ok a ha];omega
theorem Pl.step{n:Nat}{q:List Nat}{m:List Int}(h:Pl n q m){k:Nat}(hk:k<n)(hq:k∉q):Pl n (q++[k]) (m.set k q.length):=by
 have hl:k<m.length:=by rw[h.la];exact hk
 refine⟨by simp[h.la],fun x hx=>?_,?_,fun a ha=>?_,fun x hx=>?_⟩
 ·rcases dt.1 hx with hx|hx
  ·exact h.lt x hx
  ·simp at hx;omega
 ·rw[qle];refine⟨h.nod,ae,fun x hx y hy e=>?_⟩;simp at hy;subst hy e;exact hq hx
 ·rw[xi8 _ _ _ _ _ hl];by_cases h1:a<q.length
  ·rw[List.getElem_append_left h1,if_neg (fun e=>hq (by rw[e];exact c9 h1))];exact h.ok a h1
  ·have:a=q.length:=by simp at ha;omega
   subst this;simp
 ·simp only[dt,ei,not_or]at hx;rw[xi8 _ _ _ _ _ hl,if_neg (fun e=>hx.2 e.symm)];exact h.no x hx.1
theorem Pl.nil(n:Nat):Pl n [] (List.replicate n (-1)):=⟨ae,ae,ae,ae,fun k _=>by
 simp only[fg,qmn];split<;>rfl⟩
def okO(n:Nat)(q:List Nat)(o:List Int):Prop:=(∀k∈o,0≤k∧k<n)∧(q++o.map Int.toNat).Nodup
theorem xc2{n:Nat}{q:List Nat}{k:Int}{o:List Int}(hq:q.Nodup):okO n q (k::o)↔(0≤k∧k<n∧k.toNat∉q)∧okO n (q++[k.toNat]) o:=by
 unfold okO;simp only[cw,forall_eq_or_imp,c8];have e:q++[k.toNat]++o.map Int.toNat=q++k.toNat::o.map Int.toNat:=ae;rw[e];constructor
 ·rintro⟨⟨h1,h2⟩,h3⟩;refine⟨⟨h1.1,h1.2,fun hm=>?_⟩,h2,h3⟩;exact(qle.1 h3).2.2 _ hm _ ae rfl
 ·rintro⟨⟨h1,h2,h3⟩,h4,h5⟩;exact⟨⟨⟨h1,h2⟩,h4⟩,h5⟩
theorem xgt{n:Nat}:∀(o:List Int) (q:List Nat) (m:List Int),Pl n q m →
  (∀m',atF n o q.length m=some m'→okO n q o∧Pl n (q++o.map Int.toNat) m')∧(atF n o q.length m=none→¬okO n q o)
 | [],q,m,h=>by
  simp only[atF,d7,e6,e8,reduceCtorEq,false_implies,and_true];rintro m' rfl;exact⟨⟨ae,by simpa using h.nod⟩,h⟩
 |k::o,q,m,h=>by
  rw[atF];have hm:=h.mem k.toNat;split
  ·rename_i hc;refine⟨ae,fun _ hO=>?_⟩;have:=((xc2 h.nod).1 hO).1;rcases hc with hc|hc|hc
   ·omega
   ·omega
   ·exact this.2.2 (hm.1 hc)
  ·rename_i hc;simp only[not_or]at hc;have hq:k.toNat∉q:=fun g=>hc.2.2 (hm.2 g);have hs:=h.step (k:=k.toNat) aa hq;have ih:=xgt o (q++[k.toNat]) _ hs;have el:(q++[k.toNat]).length=q.length+1:=ae;have ec:q++[k.toNat]++o.map Int.toNat=q++(k::o).map Int.toNat:=ae;rw[el,ec]at ih;refine⟨fun m' pc=>?_,fun hn hO=>?_⟩
   ·have:=ih.1 m' pc;exact⟨(xc2 h.nod).2 ⟨⟨aa,aa,hq⟩,this.1⟩,this.2⟩
   ·exact ih.2 hn ((xc2 h.nod).1 hO).2
theorem xw9{n:Nat}:∀(o:List Int) (q:List Nat) (m:List Bool),m.length=n→q.Nodup→(∀k,m.getD k false=true↔k∈q)→(xar n o m=true↔okO n q o)
 | [],q,m,hl,hq,h=>by simp[xar,okO,hq]
 |k::o,q,m,hl,hq,h=>by
  rw[xar,xc2 hq];split
  ·rename_i hc;constructor
   ·intro hf;cases hf
   ·rintro⟨⟨h1,h2,h3⟩,_⟩;rcases hc with hc|hc|hc
    ·omega
    ·omega
    ·exact absurd ((h _).1 hc) h3
  ·rename_i hc;simp only[not_or]at hc;have hk:k.toNat∉q:=fun g=>hc.2.2 ((h _).2 g);have ib:k.toNat<m.length:=aa;have ih:=xw9 (n:=n) o (q++[k.toNat]) (m.set k.toNat true) qhh (by
    rw[qle];refine⟨hq,ae,fun x hx y hy e=>?_⟩;simp at hy;subst hy e;exact hk hx) (fun j=>by
    rw[xi8 _ _ _ _ _ ib];simp only[dt,ei];by_cases hj:k.toNat=j
    ·simp[hj]
    ·rw[if_neg hj,h];exact⟨.inl,fun g=>g.resolve_right (fun e=>hj e.symm)⟩)
   rw[ih];exact⟨fun g=>⟨⟨aa,aa,hk⟩,g⟩,fun g=>g.2⟩
def pk(fs:List Foot)(i j:Nat):Bool:=match fs[i]?,fs[j]? with|some a,some b=>th a b|_,_=>false
def xbe(fs:List Foot)(order:List Int):Nat :=
 match atF fs.length order 0 (List.replicate fs.length (-1))with
 |none=>0
 |some m=>if order.length≠fs.length then 0 else qr0 m (pk fs) fs.length
def qrv(order:List Int)(n:Nat):Bool:=decide (order.length=n)&&xar n order (List.replicate n false)
def xlz(fs:List Foot)(order:List Int):Nat:=if qrv order fs.length=true then xdi (order.map Int.toNat) (pk fs) fs.length fs.length else 0
theorem qwz(order:List Int)(n:Nat):qrv order n=true↔order.length=n∧okO n [] order:=by
 unfold qrv;rw[c0,decide_eq_true_eq,xw9 order [] _ ae ae (fun k=>by
  simp only[fg,qmn];split<;>simp)]
theorem xq1{order:List Int}{n:Nat}(h:qrv order n=true):∃m,atF n order 0 (List.replicate n (-1))=some m∧Ord n (order.map Int.toNat) m∧∀k∈order,0≤k:=by
 obtain⟨hl,hO⟩:=(qwz _ _).1 h;have hs:=xgt order [] _ (Pl.nil n);rcases ha:atF n order 0 (List.replicate n (-1))with _|m
 ·exact absurd hO (hs.2 ha)
 ·obtain⟨_,hp⟩:=hs.1 m ha;simp only[ej]at hp;exact⟨m,rfl,⟨qhh,hp.la,hp.lt,hp.nod,fun a h=>hp.ok a h⟩,fun k hk=>(hO.1 k hk).1⟩
theorem jmr(fs:List Foot)(order:List Int):xbe fs order=xlz fs order:=by
 unfold xbe xlz;by_cases hp:qrv order fs.length=true
 ·obtain⟨m,h1,h2,h3⟩:=xq1 hp;rw[h1,if_pos hp];simp only;rw[if_neg (by simpa using((qwz _ _).1 hp).1),xx7 h2]
 ·rw[if_neg hp];have hs:=xgt order [] _ (Pl.nil fs.length);rcases ha:atF fs.length order 0 (List.replicate fs.length (-1))with _|m
  ·rfl
  ·simp only;have:=(hs.1 m ha).1;rw[if_pos (fun e=>hp ((qwz _ _).2 ⟨e,this⟩))]
theorem xmh(a b:List g9):r9 a b=r9 b a:=by
 have h:∀a b:List g9,r9 a b=true→r9 b a=true:=fun a b h=>by
  unfold r9 at h⊢;simp only[qmf,ux]at h⊢;obtain⟨k,h1,h2⟩:=h;exact⟨k,h2,h1⟩
 rcases h1:r9 a b with _|_<;>rcases h2:r9 b a with _|_
 ·rfl
 ·exact absurd (h _ _ h2) qgk
 ·exact absurd (h _ _ h1) qjf
 ·rfl
theorem xki(a b:Foot):th a b=th b a:=by
 unfold th;by_cases h:my a.all a.reads a.writes=false∨my b.all b.reads b.writes=false∨a.all=true∨b.all=true
 ·rw[if_pos h,if_pos (by rcases h with h|h|h|h<;>simp[h])]
 ·rw[if_neg h,if_neg (fun g=>h (by rcases g with g|g|g|g<;>simp[g])),xmh a.writes b.writes,xmh a.writes b.reads,xmh a.reads b.writes,Bool.or_comm (r9 b.reads a.writes)]
theorem jis{fs:List Foot}{order:List Int}(hp:qrv order fs.length=true):xbe fs order=0↔∀a b,a<b→b<order.length→(order.getD a 0<order.getD b 0∨pk fs (order.getD a 0).toNat (order.getD b 0).toNat=false):=by
 obtain⟨m,h1,h2,h3⟩:=xq1 hp;have hl:=((qwz _ _).1 hp).1;rw[jmr];unfold xlz;rw[if_pos hp,jfg,hl];have hg:∀a,(order.map Int.toNat).getD a 0=(order.getD a 0).toNat:=fun a=>by
  simp only[fg,dq];rcases order[a]? with _|x<;>simp
 have hc:∀i j,pk fs i j=pk fs j i:=fun i j=>by
  unfold pk;rcases fs[i]? with _|x<;>rcases fs[j]? with _|y<;>simp[xki]
 have ii:∀a b,a<b→b<fs.length→(order.getD a 0).toNat≠(order.getD b 0).toNat∧0≤order.getD a 0∧0≤order.getD b 0:=fun a b wt hb=>by
  have ha':a<order.length:=aa;have il:b<order.length:=aa;have e1:order.getD a 0=order[a]:=by rw[fg,da ha'];rfl
  have e2:order.getD b 0=order[b]:=by rw[fg,da il];rfl
  rw[e1,e2];refine⟨fun e=>?_,h3 _ (c9 ha'),h3 _ (c9 il)⟩;have:(order.map Int.toNat)[a]'(by simpa using ha')=(order.map Int.toNat)[b]'(by simpa using il):=by simpa using e
  have:=(List.getElem_inj h2.nod).1 this;omega
 constructor
 ·intro h a b wt hb;have hn:=h a b wt hb;rw[hg,hg]at hn;obtain⟨n1,n2,n3⟩:=ii a b wt hb;by_cases ib:order.getD a 0<order.getD b 0
  ·exact .inl ib
  ·right;rw[hc];rcases hx:pk fs (order.getD b 0).toNat (order.getD a 0).toNat with _|_
   ·rfl
   ·exact absurd ⟨aa,hx⟩ hn
 ·rintro h a b wt hb ⟨g1,g2⟩;rw[hg,hg]at g1 g2;obtain⟨n1,n2,n3⟩:=ii a b wt hb;rcases h a b wt hb with h|h
  ·omega
  ·rw[hc]at h;rw[h]at g2;cases g2
section
variable (fmt:Int→g9)
def exN(procs:List Proc)(l:List Txn)(x:List Pr×List Eff)(i:Nat):List Pr×List Eff:=match l[i]? with
 |some t=>((ov fmt procs x.1 t).1,x.2.set i (ov fmt procs x.1 t).2)
 |none=>x
def exO(procs:List Proc)(s:List Pr)(l:List Txn)(o:List Nat):List Pr×List Eff:=o.foldl (exN fmt procs l) (s,List.replicate l.length qw9)
end
inductive Leg(fs:List Foot):List Nat→Prop
 |nil:Leg fs []
 |snoc {o:List Nat} {j:Nat}:Leg fs o→j<fs.length→j∉o→(∀i,i<j→pk fs i j=true→i∈o)→Leg fs (o++[j])
section
variable {fs:List Foot} {o:List Nat}
theorem Leg.cl(h:Leg fs o):∀n∈o,∀i,i<n→pk fs i n=true→i∈o:=by
 induction h with
 |nil=>intro n hn;cases hn
 |snoc h hj iz hc ih =>
  intro n hn i hi hx;simp only[dt,ei]at hn⊢;rcases hn with hn|rfl
  ·exact .inl (ih n hn i hi hx)
  ·exact .inl (hc i hi hx)
theorem Leg.lt(h:Leg fs o):∀n∈o,n<fs.length:=by
 induction h with
 |nil=>intro n hn;cases hn
 |snoc h hj iz hc ih =>
  intro n hn;simp only[dt,ei]at hn;rcases hn with hn|rfl
  ·exact ih n hn
  ·exact hj
theorem Leg.nod(h:Leg fs o):o.Nodup:=by
 induction h with
 |nil=>exact qmg
 |snoc h hj iz hc ih=>exact qle.2 ⟨ih,ae,fun a ha b hb=>by simp at hb;subst hb;rintro rfl;exact iz ha⟩
theorem Leg.at(h:Leg fs o):∀a (ha:a<o.length) i,i<o[a]→pk fs i o[a]=true→i∈o.take a:=by
 induction h with
 |nil=>intro a ha;cases ha
 | @snoc o j h hj iz hc ih =>
  intro a ha i hi hx;by_cases e:a<o.length
  ·rw[List.getElem_append_left e]at hi hx;rw[qlx aa];exact ih a e i hi hx
  ·have e':a=o.length:=by simp at ha;omega
   subst e';rw[List.getElem_concat_length rfl]at hi hx;rw[qlx (ct _),qly];exact hc i hi hx
end
abbrev kz(l:List Txn):List Foot:=l.map (·.ft)
theorem xih{l:List Txn}{i j:Nat}(hi:i<l.length)(hj:j<l.length):pk (kz l) i j=th l[i].ft l[j].ft:=by
 simp[pk,hi,hj]
theorem jcv{a b:List Pr}(ha:nn a=true)(hb:nn b=true)(h:∀k,lh a k=lh b k):a=b:=by
 obtain⟨a1,a2,a3⟩:=(qdi a).1 ha;obtain⟨b1,b2,b3⟩:=(qdi b).1 hb;have half:∀{a b:List Pr},(∀p∈a,zi p.v∧p.v.k≠0)→jp (nu a)→(∀k,lh a k=lh b k)→∀q∈a,q∈b:=fun {a b} h1 h2 h q hq=>by
  have h3:=qv6 h2 hq;have h4:lh b q.key≠V.nil:=by
   rw[←h,h3];intro e;have:=(h1 q hq).2;rw[e]at this;exact this rfl
  have h5:=xhc h4;rw[←h,h3]at h5;exact h5
 exact xk0 a3 b3 fun q=>⟨half a1 a3 h q,half b1 b3 (fun k=>(h k).symm) q⟩
section
variable {fmt:Int→g9} {procs:List Proc} {s:List Pr} {l:List Txn}
theorem xig(o:List Nat)(j:Nat):exO fmt procs s l (o++[j])=exN fmt procs l (exO fmt procs s l o) j:=by
 unfold exO;rw[ql0];rfl
theorem xjz{x:List Pr×List Eff}{j:Nat}(h:j<l.length):exN fmt procs l x j=((ov fmt procs x.1 l[j]).1,x.2.set j (ov fmt procs x.1 l[j]).2):=by
 unfold exN;rw[da h]
theorem ji7(hB:BatchIn fmt procs l){j:Nat}(h:j<l.length):BatchIn fmt procs [l[j]]:=⟨hB.fmt,hB.body,fun x hx=>by simp at hx;subst hx;exact hB.args _ (c9 h)⟩
theorem xu1{a b:Foot}{k:g9}(ha:my a.all a.reads a.writes=true)(hb:my b.all b.reads b.writes=true)(h1:a.all=true∨jk a.writes k=true)(h2:b.all=true∨jk b.reads k=true∨jk b.writes k=true):th a b=true:=by
 unfold th;split
 ·rfl
 ·rename_i hc;simp only[not_or,Bool.not_eq_false,Bool.not_eq_true]at hc;have h1:jk a.writes k=true:=h1.resolve_left (by rw[hc.2.2.1];simp);rcases h2.resolve_left (by rw[hc.2.2.2];simp)with h2|h2
  ·have:r9 a.writes b.reads=true:=qmf.2 ⟨k,ux.1 h1,h2⟩;simp[this]
  ·have:r9 a.writes b.writes=true:=qmf.2 ⟨k,ux.1 h1,h2⟩;simp[this]
structure ExOk(fmt:Int→g9)(procs:List Proc)(s:List Pr)(l:List Txn)(o:List Nat)(x:List Pr×List Eff):Prop where
 rng:p9 x.1
 len:x.1.length≤s.length+64 * o.length
 cnt:x.2.length=l.length
 ok:nn s=true→nn x.1=true
 no:nn s=false→x.1=s
 eff:∀j (h:j<l.length),j∈o→x.2[j]?=some (qm0 fmt procs s l j l[j])
 get:nn s=true→∀k i,i≤l.length→(∀n (h:n<l.length),qpp (qm0 fmt procs s l n l[n]) k=true→(n∈o↔n<i))→lh x.1 k=lh (qox fmt procs s l i) k
theorem xlw(hB:BatchIn fmt procs l)(hs:p9 s)(h0:nn s=true)(k:g9)(a:Nat):∀b,a≤b→b≤l.length→(∀n (h:n<l.length),a≤n→n<b→qpp (qm0 fmt procs s l n l[n]) k=false)→lh (qox fmt procs s l b) k=lh (qox fmt procs s l a) k
 | 0,h,_,_=>by rw[show a=0 by omega]
 |b+1,h,hb,hw=>by
  by_cases e:a=b+1
  ·rw[e]
  ·have ih:=xlw hB hs h0 k a b aa aa fun n h h1 h2=>hw n h h1 aa;have hO:=xty hB hs (show b<l.length by omega);rw[xw6 aa,hO.upd,xhi (xhj hB hs h0 b) (fun h=>(hO.com h).2),←ih];have:=hw b aa aa aa;unfold qm0 at this;rw[if_neg (by simp[this])]
theorem xkp(hB:BatchIn fmt procs l)(hs:p9 s){n:Nat}(h:n<l.length){k:g9}(hw:qpp (qm0 fmt procs s l n l[n]) k=true):my l[n].ft.all l[n].ft.reads l[n].ft.writes=true∧(l[n].ft.all=true∨jk l[n].ft.writes k=true) :=
 jks (ji7 hB h) (xal hs _ (hB.take n)).rng hw
theorem jeb{n:Nat}(h:n<l.length){k:g9}(hk:k∈(qm0 fmt procs s l n l[n]).reads):my l[n].ft.all l[n].ft.reads l[n].ft.writes=true∧(l[n].ft.all=true∨jk l[n].ft.reads k=true) :=
 jcp hk
theorem xj3(hB:BatchIn fmt procs l)(hs:p9 s){o:List Nat}(hL:Leg (kz l) o):ExOk fmt procs s l o (exO fmt procs s l o):=by
 induction hL with
 |nil =>
  refine⟨hs,by simp[exO],by simp[exO],id,fun _=>rfl,fun j h hj=>(by cases hj),fun h0 k i hi hw=>?_⟩;have:=xlw hB hs h0 k 0 i aa hi fun n h _ hn=>by
   rcases hx:qpp (qm0 fmt procs s l n l[n]) k with _|_
   ·rfl
   ·have:=(hw n h hx).2 hn;cases this
  rw[this];rfl
 | @snoc o j hL hj iz hc ih =>
  have hj:j<l.length:=bf;rw[xig,xjz hj];have hO:=xi4 (fmt:=fmt) (procs:=procs) (t:=l[j]) hB.fmt hB.body (hB.args _ (c9 hj)) ih.rng
  -- its effect is the serial one
  have heff:(ov fmt procs (exO fmt procs s l o).1 l[j]).2=qm0 fmt procs s l j l[j]:=by
   rcases h0:nn s with _|_
   ·unfold qm0;rw[ih.no h0,jj3 hB hs h0]
   ·refine xz7 (xhj hB hs h0 j) (ih.ok h0) fun k hk=>?_;obtain⟨f1,f2⟩:=jeb (fmt:=fmt) (procs:=procs) (s:=s) hj hk;refine(ih.get h0 k j aa fun n h hw=>?_).symm;obtain⟨g1,g2⟩:=xkp hB hs h hw;have hcf:th l[n].ft l[j].ft=true:=xu1 g1 f1 g2 (f2.imp id .inl);constructor
    ·intro hn;rcases qmc n j with h1|h1|h1
     ·exact h1
     ·subst h1;exact(iz hn).elim
     ·exact(iz (hL.cl n hn j h1 (by rw[xih hj h,xki];exact hcf))).elim
    ·intro hn;exact hc n hn (by rw[xih h hj];exact hcf)
  refine⟨hO.rng,?_,by simp[ih.cnt],fun h=>hO.ok (ih.ok h),fun h=>?_,fun n hn hm=>?_,fun h0 k i hi hw=>?_⟩
  ·have:=ih.len;have:=hO.len;simp only[cz,f8];omega
  ·have h1:=ih.no h;exact(hO.no (by rw[h1];exact h)).trans h1
  ·simp only;by_cases e:n=j
   ·subst e;rw[heff];exact ep (by rw[ih.cnt];exact hn)
   ·rw[dm (fun g=>e g.symm)];simp only[dt,ei]at hm;exact ih.eff n hn (hm.resolve_right e)
  ·simp only;have hOj:=xty hB hs hj;have hcom:(qm0 fmt procs s l j l[j]).status=1→qc6 (qm0 fmt procs s l j l[j]).writes=true:=fun h=>(hOj.com h).2;rw[hO.upd,heff,xhi (ih.ok h0) hcom];split
   ·rename_i hwj;have mo:j<i:=(hw j hj hwj).1 ae;obtain⟨g1,g2⟩:=xkp hB hs hj hwj;have:=xlw hB hs h0 k (j+1) i aa hi fun n h h1 h2=>by
     rcases hx:qpp (qm0 fmt procs s l n l[n]) k with _|_
     ·rfl
     ·have hm:=(hw n h hx).2 h2;simp only[dt,ei]at hm;rcases hm with hm|hm
      ·obtain⟨e1,e2⟩:=xkp hB hs h hx;exact(iz (hL.cl n hm j aa (by rw[xih hj h];exact xu1 g1 e1 g2 (e2.imp id .inr)))).elim
      ·omega
    rw[this,xw6 hj,hOj.upd,xhi (xhj hB hs h0 j) (fun h=>(hOj.com h).2)];unfold qm0 at hwj;rw[if_pos hwj];rfl
   ·rename_i hwj;refine ih.get h0 k i hi fun n h hx=>?_;rw[←hw n h hx];simp only[dt,ei];constructor
    ·exact .inl
    ·rintro(h1|rfl)
     ·exact h1
     ·exact(hwj hx).elim
theorem xsp(hB:BatchIn fmt procs l)(hs:p9 s){o:List Nat}(hL:Leg (kz l) o)(jr:o.length=l.length):exO fmt procs s l o=nc fmt procs s l:=by
 have hX:=xj3 (fmt:=fmt) (procs:=procs) (s:=s) hB hs hL;have ix:=xbl hL.nod hL.lt qhi;have hR:=xal (fmt:=fmt) (procs:=procs) hs l hB;refine Prod.ext ?_ ?_
 ·have e:qox fmt procs s l l.length=(nc fmt procs s l).1:=by unfold qox;rw[qly]
  rcases h0:nn s with _|_
  ·rw[hX.no h0,hR.no h0]
  ·refine jcv (hX.ok h0) (hR.ok h0) fun k=>?_;rw[←e];exact hX.get h0 k l.length (ct _) fun n h _=>⟨fun _=>h,fun _=>ix n bh⟩
 ·refine fy fun i=>?_;by_cases h:i<l.length
  ·rw[hX.eff i h (ix i bh),jd0 l i h]
  ·rw[fa (by rw[hX.cnt];omega),fa (by rw[hR.cnt];omega)]
end
structure LReq where
 t:Int
 w:Bool
structure LQ where
 key:g9
 reqs:List LReq
structure LT where
 glob:List LReq
 qs:List LQ
def LReq.c(r:LReq):List AV:=[I r.t,Bo r.w]
def LQ.c(q:LQ):List AV:=[S q.key,.slice (q.reqs.map LReq.c)]
def LT.c(t:LT):List AV:=[.slice (t.glob.map LReq.c),.slice (t.qs.map LQ.c)]
abbrev ko(l:List LQ):List g9:=l.map (·.key)
def yt:Option Int→List LReq→Bool
 |_,[]=>true
 |q,r::l=>(!decide (r.t<0)&&q.elim true fun p=>decide (p<r.t))&&yt (some r.t) l
def y4(g:List LReq)(t:Int):Bool:=match g.find? fun x=>decide (x.t=t)with|some x=>!x.w|none=>false
def yd(g:List LReq):Option g9→List LQ→Bool
 |_,[]=>true
 |k,q::l=>(rk q.key&&after k q.key&&!q.reqs.isEmpty&&yt none q.reqs)&&(q.reqs.all fun r=>y4 g r.t)&&yd g (some q.key) l
def zf(t:LT):Bool:=yt none t.glob&&yd t.glob none t.qs
def mp(k:g9)(r:LReq):List LQ→List LQ
 | []=>[⟨k,[r]⟩]
 |q::l=>if ju q.key k=true then q::mp k r l else if q.key=k then⟨k,q.reqs++[r]⟩::l else⟨k,[r]⟩::q::l
def zk(k:g9):List LQ→List LReq
 | []=>[]
 |q::l=>if q.key=k then q.reqs else zk k l
theorem xpr{k:g9}:∀{l:List LQ},(∀q∈l,q.key≠k)→zk k l=[]
 | [],_=>rfl
 |q::l,h=>by rw[zk,if_neg (h q ae),xpr fun q hq=>h q cn]
theorem xcs{k:g9}{r:List LReq}:∀{l:List LQ},jp (ko l)→(⟨k,r⟩:LQ)∈l→zk k l=r
 | [],_,h=>by cases h
 |q::l,ha,h=>by
  obtain⟨h1,h2⟩:=ef.1 ha;rw[zk];rcases cw.1 h with rfl|h
  ·rw[if_pos rfl]
  ·have:ju q.key k=true:=h1 k (dk.2 ⟨_,h,rfl⟩);rw[if_neg (qtj this)];exact xcs h2 h
theorem xe1{k:g9}:∀{l:List LQ},zk k l≠[]→(⟨k,zk k l⟩:LQ)∈l
 | [],h=>(h rfl).elim
 |q::l,h=>by
  rw[zk]at h⊢;by_cases e:q.key=k
  ·rw[if_pos e];subst e;simp
  ·rw[if_neg e]at h⊢;exact List.mem_cons_of_mem _ (xe1 h)
theorem xp2:∀{l m:List LQ},jp (ko l)→jp (ko m)→(∀q,q∈l↔q∈m)→l=m
 | [],[],_,_,_=>rfl
 | [],y::m,_,_,h=>by have:=(h y).2 ae;cases this
 |x::l,[],_,_,h=>by have:=(h x).1 ae;cases this
 |x::l,y::m,hl,hm,h=>by
  obtain⟨l1,l2⟩:=ef.1 hl;obtain⟨m1,m2⟩:=ef.1 hm;have exy:x=y:=by
   have hx:=(h x).1 ae;have hy:=(h y).2 ae;rcases cw.1 hx with e|hx
   ·exact e
   ·rcases cw.1 hy with e|hy
    ·exact e.symm
    ·have a1:ju y.key x.key=true:=m1 _ (dk.2 ⟨x,hx,rfl⟩);have a2:ju x.key y.key=true:=l1 _ (dk.2 ⟨y,hy,rfl⟩);rw[xf5 a1]at a2;cases a2
  subst exy;congr 1;refine xp2 l2 m2 fun q=>?_;constructor
  ·intro hq;rcases cw.1 ((h q).1 cn)with e|xm
   ·subst e;have:ju q.key q.key=true:=l1 _ (dk.2 ⟨q,hq,rfl⟩);rw[qbx]at this;cases this
   ·exact xm
  ·intro hq;rcases cw.1 ((h q).2 cn)with e|xm
   ·subst e;have:ju q.key q.key=true:=m1 _ (dk.2 ⟨q,hq,rfl⟩);rw[qbx]at this;cases this
   ·exact xm
theorem xv9{k:g9}{r:LReq}:∀{l:List LQ} {x:g9},x∈ko (mp k r l)→x=k∨x∈ko l
 | [],x,h=>by simpa[mp]using h
 |q::l,x,h=>by
  rw[mp]at h;split at h
  ·simp only[c8,cw]at h⊢;rcases h with h|h
   ·exact .inr (.inl h)
   ·exact(xv9 h).imp id .inr
  ·split at h
   ·simp only[c8,cw]at h⊢;exact h.imp id .inr
   ·simpa using h
theorem qwo{k:g9}{r:LReq}:∀{l:List LQ},jp (ko l)→jp (ko (mp k r l))
 | [],_=>by simp[mp,jp]
 |q::l,h=>by
  obtain⟨h1,h2⟩:=ef.1 h;rw[mp];split
  ·rename_i hk;refine ef.2 ⟨fun x hx=>?_,qwo h2⟩;rcases xv9 hx with rfl|hx
   ·exact hk
   ·exact h1 x hx
  ·rename_i hk;split
   ·rename_i e;subst e;exact h
   ·rename_i e;have ib:ju k q.key=true:=by
     rcases gn (ju k q.key)with g|g
     ·exact g
     ·exact(e (qv9 hk qhw)).elim
    refine ef.2 ⟨fun x hx=>?_,h⟩;simp only[c8,cw]at hx;rcases hx with rfl|hx
    ·exact ib
    ·exact qdz ib (h1 x hx)
theorem qwj{k:g9}{r:LReq}:∀{l:List LQ},jp (ko l)→∀q,q∈mp k r l↔(q.key≠k∧q∈l)∨q=⟨k,zk k l++[r]⟩
 | [],_,q=>by simp[mp,zk]
 |x::l,h,q=>by
  obtain⟨h1,h2⟩:=ef.1 h;rw[mp,zk];split
  ·rename_i hk;rw[if_neg (qtj hk),cw,qwj h2 q,cw];constructor
   ·rintro(rfl|⟨a,b⟩|e)
    ·exact .inl ⟨qtj hk,.inl rfl⟩
    ·exact .inl ⟨a,.inr b⟩
    ·exact .inr e
   ·rintro(⟨a,rfl|b⟩|e)
    ·exact .inl rfl
    ·exact .inr (.inl ⟨a,b⟩)
    ·exact .inr (.inr e)
  ·rename_i hk;have hout:∀q∈l,x.key≠q.key:=fun q hq=>qtj (h1 _ (dk.2 ⟨q,hq,rfl⟩));split
   ·rename_i e;subst e;simp only[cw];constructor
    ·rintro(e|b)
     ·exact .inr e
     ·exact .inl ⟨fun e=>hout q b e.symm,.inr b⟩
    ·rintro(⟨a,rfl|b⟩|e)
     ·exact(a rfl).elim
     ·exact .inr b
     ·exact .inl e
   ·rename_i e;have ib:ju k x.key=true:=by
     rcases gn (ju k x.key)with g|g
     ·exact g
     ·exact(e (qv9 hk qhw)).elim
    have iz:∀q∈x::l,q.key≠k:=fun q hq e'=>by
     rcases cw.1 hq with rfl|hq
     ·exact e e'
     ·have:=qdz ib (h1 _ (dk.2 ⟨q,hq,rfl⟩));exact qtj this e'.symm
    rw[xpr fun q hq=>iz q cn];simp only[ej];rw[cw];constructor
    ·rintro(e|b)
     ·exact .inr e
     ·exact .inl ⟨iz q b,b⟩
    ·rintro(⟨_,b⟩|e)
     ·exact .inr b
     ·exact .inl e
theorem jbu{k x:g9}{r:LReq}{l:List LQ}(h:jp (ko l)):zk x (mp k r l)=if x=k then zk k l++[r]else zk x l:=by
 by_cases e:x=k
 ·subst e;rw[if_pos rfl];exact xcs (qwo h) ((qwj h _).2 (.inr rfl))
 ·rw[if_neg e];by_cases hn:zk x l=[]
  ·rw[hn];by_cases pq:zk x (mp k r l)=[]
   ·exact pq
   ·have hm:=(qwj h _).1 (xe1 pq);rcases hm with⟨_,hm⟩|hm
    ·have:=xcs h hm;rw[hn]at this;exact this.symm
    ·exact(e (congrArg LQ.key hm)).elim
  ·exact xcs (qwo h) ((qwj h _).2 (.inl ⟨e,xe1 hn⟩))
def qru(r:g9→LReq)(ks:List g9)(l:List LQ):List LQ:=ks.foldl (fun l k=>mp k (r k) l) l
theorem xtc{r:g9→LReq}:∀(ks:List g9) (l:List LQ),ks.Nodup→jp (ko l)→jp (ko (qru r ks l))∧∀q,q∈qru r ks l↔(q.key∉ks∧q∈l)∨(q.key∈ks∧q.reqs=zk q.key l++[r q.key])
 | [],l,_,h=>⟨h,fun q=>by simp[qru]⟩
 |k::ks,l,hn,h=>by
  obtain⟨n1,n2⟩:=gg.1 hn;obtain⟨i1,i2⟩:=xtc (r:=r) ks (mp k (r k) l) n2 (qwo h);refine⟨i1,fun q=>?_⟩;show q∈qru r ks (mp k (r k) l)↔_;rw[i2,qwj h,jbu h];simp only[cw,not_or];constructor
  ·rintro(⟨a,⟨b,c⟩|rfl⟩|⟨a,b⟩)
   ·exact .inl ⟨⟨b,a⟩,c⟩
   ·exact .inr ⟨.inl rfl,rfl⟩
   ·have:q.key≠k:=fun e=>n1 (e▸a);rw[if_neg this]at b;exact .inr ⟨.inr a,b⟩
  ·rintro(⟨⟨a,b⟩,c⟩|⟨a|a,b⟩)
   ·exact .inl ⟨b,.inl ⟨a,c⟩⟩
   ·left;refine⟨by rw[a];exact n1,.inr ?_⟩;obtain⟨qk,qr⟩:=q;simp only at a b;subst a;rw[b]
   ·have:q.key≠k:=fun e=>n1 (e▸a);exact .inr ⟨a,by rw[if_neg this];exact b⟩
def uk(f:Foot)(k:g9):Bool:=jk f.writes k||jk f.reads k
def rq(fs:Nat→Foot)(k:g9)(R:List Nat):List LReq:=(R.filter fun i=>uk (fs i) k).map fun (i:Nat)=>⟨(i:Int),jk (fs i).writes k⟩
structure TabOk(fs:Nat→Foot)(R:List Nat)(T:LT):Prop where
 glob:T.glob=R.map fun (i:Nat)=>⟨(i:Int),(fs i).all⟩
 asc:jp (ko T.qs)
 mem:∀q,q∈T.qs↔q.reqs=rq fs q.key R∧q.reqs≠[]
theorem jea{fs:Nat→Foot}{R:List Nat}{T T':LT}(h:TabOk fs R T)(h':TabOk fs R T'):T=T':=by
 obtain⟨g,qs⟩:=T;obtain⟨g',qs'⟩:=T';have e1:g=g':=h.glob.trans h'.glob.symm;have e2:qs=qs':=xp2 h.asc h'.asc fun q=>(h.mem q).trans (h'.mem q).symm;rw[e1,e2]
theorem jeg(fs:Nat→Foot):TabOk fs [] ⟨[],[]⟩:=⟨rfl,by simp[jp],fun q=>by simp[rq]⟩
theorem jhv(fs:Nat→Foot)(k:g9)(R:List Nat)(n:Nat):rq fs k (R++[n])=if uk (fs n) k=true then rq fs k R++[⟨(n:Int),jk (fs n).writes k⟩]else rq fs k R:=by
 unfold rq;rw[gw];by_cases h:uk (fs n) k=true
 ·simp[h]
 ·simp[h]
theorem jab{fs:Nat→Foot}{R:List Nat}{T:LT}(h:TabOk fs R T)(k:g9):zk k T.qs=rq fs k R:=by
 by_cases e:rq fs k R=[]
 ·rw[e];by_cases hn:zk k T.qs=[]
  ·exact hn
  ·have:=((h.mem _).1 (xe1 hn)).1;exact this.trans e
 ·exact xcs h.asc ((h.mem ⟨k,rq fs k R⟩).2 ⟨rfl,e⟩)
theorem xov{fs:Nat→Foot}{R:List Nat}{T:LT}{n:Nat}{ks:List g9}(h:TabOk fs R T)(hn:ks.Nodup)(hk:∀k,k∈ks↔uk (fs n) k=true) :
  TabOk fs (R++[n]) ⟨T.glob++[⟨(n:Int),(fs n).all⟩],qru (fun k=>⟨(n:Int),jk (fs n).writes k⟩) ks T.qs⟩:=by
 obtain⟨a1,a2⟩:=xtc (r:=fun k=>⟨(n:Int),jk (fs n).writes k⟩) ks T.qs hn h.asc;refine⟨by simp[h.glob],a1,fun q=>?_⟩;simp only;rw[a2,jhv,jab h,h.mem,hk];by_cases e:uk (fs n) q.key=true
 ·rw[if_pos e];constructor
  ·rintro(⟨a,_⟩|⟨_,b⟩)
   ·exact(a e).elim
   ·exact⟨b,by rw[b];simp⟩
  ·rintro⟨a,_⟩;exact .inr ⟨e,a⟩
 ·rw[if_neg e];constructor
  ·rintro(⟨_,b⟩|⟨a,_⟩)
   ·exact b
   ·exact(e a).elim
  ·intro b;exact .inl ⟨e,b⟩
def re(t:Int)(l:List LReq):List LReq:=l.filter fun r=>!decide (r.t=t)
def ud(t:Int):List LQ→List LQ
 | []=>[]
 |q::l=>if re t q.reqs=[]then ud t l else⟨q.key,re t q.reqs⟩::ud t l
def qtf(t:Int)(T:LT):LT:=⟨re t T.glob,ud t T.qs⟩
theorem xfh{t:Int}:∀(l:List LQ) (q:LQ),q∈ud t l↔q.reqs≠[]∧∃x∈l,x.key=q.key∧re t x.reqs=q.reqs
 | [],q=>by simp[ud]
 |x::l,q=>by
  rw[ud];split
  ·rename_i e;rw[xfh l q];constructor
   ·rintro⟨a,y,hy,b⟩;exact⟨a,y,cm,b⟩
   ·rintro⟨a,y,hy,b,c⟩;rcases cw.1 hy with rfl|hy
    ·rw[e]at c;exact(a c.symm).elim
    ·exact⟨a,y,hy,b,c⟩
  ·rename_i e;rw[cw,xfh l q];constructor
   ·rintro(rfl|⟨a,y,hy,b⟩)
    ·exact⟨e,x,ae,rfl,rfl⟩
    ·exact⟨a,y,cm,b⟩
   ·rintro⟨a,y,hy,b,c⟩;rcases cw.1 hy with rfl|hy
    ·left;obtain⟨qk,qr⟩:=q;simp only at b c;subst b c;rfl
    ·exact .inr ⟨a,y,hy,b,c⟩
theorem joc{t:Int}:∀{l:List LQ} {k:g9},k∈ko (ud t l)→k∈ko l:=fun {l k} h=>by
 obtain⟨q,hq,rfl⟩:=dk.1 h;obtain⟨_,x,hx,e,_⟩:=(xfh l q).1 hq;exact dk.2 ⟨x,hx,e⟩
theorem xhr{t:Int}:∀{l:List LQ},jp (ko l)→jp (ko (ud t l))
 | [],_=>by simp[ud,jp]
 |q::l,h=>by
  obtain⟨h1,h2⟩:=ef.1 h;rw[ud];split
  ·exact xhr h2
  ·exact ef.2 ⟨fun x hx=>h1 x (joc hx),xhr h2⟩
theorem xjv(fs:Nat→Foot)(k:g9)(R:List Nat)(n:Nat):re n (rq fs k R)=rq fs k (R.filter fun i=>!decide (i=n)):=by
 unfold re rq;rw[List.filter_map,List.filter_filter,List.filter_filter];congr 1;refine qmh fun i _=>?_;simp only[Function.comp];rw[Bool.and_comm];congr 1;by_cases e:i=n
 ·simp[e]
 ·have:¬(i:Int)=n:=aa;simp[e,this]
theorem xx9{fs:Nat→Foot}{R:List Nat}{T:LT}(h:TabOk fs R T)(n:Nat):TabOk fs (R.filter fun i=>!decide (i=n)) (qtf n T):=by
 refine⟨?_,xhr h.asc,fun q=>?_⟩
 ·unfold qtf re;simp only;rw[h.glob,List.filter_map];congr 1;refine qmh fun i _=>?_;simp only[Function.comp];by_cases e:i=n
  ·simp[e]
  ·have:¬(i:Int)=n:=aa;simp[e,this]
 ·unfold qtf;simp only;rw[xfh];constructor
  ·rintro⟨a,x,hx,b,c⟩;have:=((h.mem x).1 hx).1;rw[this,xjv,b]at c;exact⟨c.symm,a⟩
  ·rintro⟨a,b⟩;refine⟨b,⟨q.key,rq fs q.key R⟩,(h.mem _).2 ⟨rfl,fun e=>b ?_⟩,rfl,?_⟩
   ·have e:rq fs q.key R=[]:=e;rw[a,←xjv,e];rfl
   ·rw[a,xjv]
def rh(t:Int)(l:List LReq):List Int:=match l.find? fun r=>decide (r.t=t)with
 |none=>[]
 |some r=>((l.takeWhile fun x=>!decide (x.t=t)).filter fun x=>x.w||r.w).map (·.t)
def pb(T:LT)(t:Int):List Int:=rh t T.glob++T.qs.flatMap fun q=>rh t q.reqs
def qwn(T:LT):List Int:=(T.glob.filter fun r=>(pb T r.t).isEmpty).map (·.t)
theorem xg1(w:Nat→Bool)(i:Nat):∀(R:List Nat),R.Pairwise (· < ·)→rh i (R.map fun (j:Nat)=>⟨(j:Int),w j⟩)=if i∈R then(R.filter fun j=>decide (j<i)&&(w j||w i)).map Int.ofNat else []
 | [],_=>rfl
 |x::R,h=>by
  obtain⟨h1,h2⟩:=ef.1 h;by_cases e:x=i
  ·subst e;have:(R.filter fun j=>decide (j<x)&&(w j||w x))=[]:=qmr.2 fun j hj=>by
    have:=h1 j hj;have:¬j<x:=aa;simp[this]
   simp[rh,this]
  ·have e':¬(x:Int)=(i:Int):=aa;have ih:=xg1 w i R h2;unfold rh at ih⊢;simp only[c8,cw,Ne.symm e,false_or];rw[List.find?_cons_of_neg (by simp[e']),List.takeWhile_cons_of_pos (by simp[e'])];by_cases hm:i∈R
   ·have ib:=h1 i hm;rw[if_pos hm]at ih⊢;have hf:(R.map fun (j:Nat)=>(⟨(j:Int),w j⟩:LReq)).find? (fun r=>decide (r.t=(i:Int)))=some ⟨(i:Int),w i⟩:=by
     clear ih
     induction R with
     |nil=>cases hm
     |cons y R ih =>
      simp only[c8];by_cases ey:y=i
      ·subst ey;rw[List.find?_cons_of_pos ae]
      ·rw[List.find?_cons_of_neg am];obtain⟨h3,h4⟩:=ef.1 h2;have pc:i∈R:=by
        rcases cw.1 hm with g|g
        ·exact(ey g.symm).elim
        ·exact g
       exact ih (ef.2 ⟨fun z hz=>h1 z (by simp[hz]),h4⟩) (fun z hz=>h1 z (by simp[hz])) h4 pc
    rw[hf]at ih⊢;simp only at ih⊢;rw[List.filter_cons,List.filter_cons];simp only[ib,decide_true,fh];split
    ·simp only[c8];rw[ih];rfl
    ·exact ih
   ·rw[if_neg hm]at ih⊢;have hf:(R.map fun (j:Nat)=>(⟨(j:Int),w j⟩:LReq)).find? (fun r=>decide (r.t=(i:Int)))=none:=by
     rw[qms];intro r hr;obtain⟨j,hj,rfl⟩:=dk.1 hr;simp only[decide_eq_true_eq];intro mo;have:j=i:=aa;exact hm (this▸hj)
    rw[hf]
theorem ja7{fs:Nat→Foot}{R:List Nat}{T:LT}(h:TabOk fs R T)(hR:R.Pairwise (· < ·))(hf:∀i∈R,my (fs i).all (fs i).reads (fs i).writes=true){i:Nat}(hi:i∈R) :
  pb T i=[]↔∀j∈R,j<i→th (fs j) (fs i)=false:=by
 have e1:rh i T.glob=[]↔∀j∈R,j<i→((fs j).all||(fs i).all)=false:=by
  rw[h.glob,xg1 (fun j=>(fs j).all) i R hR,if_pos hi,List.map_eq_nil_iff,qmr];refine forall₂_congr fun j hj=>?_;simp
 have e2:∀q∈T.qs,(rh i q.reqs=[]↔(uk (fs i) q.key=true→∀j∈R,j<i→uk (fs j) q.key=true→(jk (fs j).writes q.key||jk (fs i).writes q.key)=false)):=fun q hq=>by
  rw[((h.mem q).1 hq).1];unfold rq;rw[xg1 (fun j=>jk (fs j).writes q.key) i _ (hR.filter _)];by_cases hh:uk (fs i) q.key=true
  ·rw[if_pos (fe.2 ⟨hi,hh⟩),List.map_eq_nil_iff,qmr];constructor
   ·intro g _ j hj mo s9;have:=g j (fe.2 ⟨hj,s9⟩);simpa[mo]using this
   ·intro g j hj;obtain⟨y6,hj2⟩:=fe.1 hj;by_cases mo:j<i
    ·have:=g hh j y6 mo hj2;simp[this]
    ·simp[mo]
  ·have hn:¬i∈R.filter fun i=>uk (fs i) q.key:=fun g=>hh (fe.1 g).2;rw[if_neg hn];simp[hh]
 unfold pb;rw[List.append_eq_nil_iff,e1,List.flatMap_eq_nil_iff];constructor
 ·rintro⟨g1,g2⟩ j hj mo;have h1:=g1 j hj mo;simp only[ql6]at h1;rcases hx:th (fs j) (fs i)with _|_
  ·rfl
  ·exfalso;unfold th at hx;rw[if_neg (by rw[hf j hj,hf i hi,h1.1,h1.2];simp)]at hx;have key:∀k,uk (fs j) k=true→uk (fs i) k=true→(jk (fs j).writes k||jk (fs i).writes k)=true→False:=fun k a b c=>by
    have hq:(⟨k,rq fs k R⟩:LQ)∈T.qs:=(h.mem _).2 ⟨rfl,fun e=>by
     have:i∈R.filter fun i=>uk (fs i) k:=fe.2 ⟨hi,b⟩;unfold rq at e;rw[List.map_eq_nil_iff]at e;rw[e]at this;cases this⟩
    have:=(e2 _ hq).1 (g2 _ hq) b j hj mo a;rw[c]at this;cases this
   simp only[r9,fv,qmf]at hx;rcases hx with⟨k,a,b⟩|⟨k,a,b⟩|⟨k,a,b⟩
   ·have a:=ux.2 a;exact key k (by simp[uk,a]) (by simp[uk,b]) (by simp[a])
   ·have a:=ux.2 a;exact key k (by simp[uk,a]) (by simp[uk,b]) (by simp[a])
   ·have a:=ux.2 a;exact key k (by simp[uk,a]) (by simp[uk,b]) (by simp[b])
 ·intro g;have nall:∀j∈R,j<i→(fs j).all=false∧(fs i).all=false∧r9 (fs j).writes (fs i).writes=false∧r9 (fs j).writes (fs i).reads=false∧r9 (fs j).reads (fs i).writes=false:=fun j hj mo=>by
   have:=g j hj mo;unfold th at this;split at this
   ·cases this
   ·rename_i hc;simp only[not_or,Bool.not_eq_false,Bool.not_eq_true]at hc;simp only[ql6]at this;exact⟨hc.2.2.1,hc.2.2.2,this.1,this.2.1,this.2.2⟩
  refine⟨fun j hj mo=>by simp[(nall j hj mo).1,(nall j hj mo).2.1],fun q hq=>(e2 q hq).2 fun hik j hj mo s9=>?_⟩;obtain⟨_,_,m1,m2,m3⟩:=nall j hj mo;have no:∀{a b:List g9},r9 a b=false→jk a q.key=true→jk b q.key=true→False:=fun {a b} m x y=>by
   unfold r9 at m;rw[List.any_eq_false]at m;exact m _ (ux.1 x) y
  unfold uk at hik s9;rcases gn (jk (fs j).writes q.key)with x|x
  ·rcases Bool.or_eq_true_iff.1 hik with y|y
   ·exact(no m1 x y).elim
   ·exact(no m2 x y).elim
  ·rcases gn (jk (fs i).writes q.key)with y|y
   ·rw[x,qlw]at s9;exact(no m3 s9 y).elim
   ·simp[x,y]
theorem ja8{fs:Nat→Foot}{R:List Nat}{T:LT}(h:TabOk fs R T)(hR:R.Pairwise (· < ·))(hf:∀i∈R,my (fs i).all (fs i).reads (fs i).writes=true) :
  qwn T=(R.filter fun i=>R.all fun j=>!(decide (j<i)&&th (fs j) (fs i))).map Int.ofNat:=by
 unfold qwn;rw[show T.glob.filter (fun r=>(pb T r.t).isEmpty)=(R.map fun (i:Nat)=>(⟨(i:Int),(fs i).all⟩:LReq)).filter (fun r=>(pb T r.t).isEmpty)by rw[h.glob],List.filter_map,qlt];have hf2:R.filter ((fun r:LReq=>(pb T r.t).isEmpty)∘fun (i:Nat)=>(⟨(i:Int),(fs i).all⟩:LReq))=R.filter fun i=>R.all fun j=>!(decide (j<i)&&th (fs j) (fs i)):=by
  refine qmh fun i hi=>?_;have:=ja7 h hR hf hi;simp only[Function.comp];rw[Bool.eq_iff_iff,List.isEmpty_iff,this,dw];refine forall₂_congr fun j hj=>?_;by_cases mo:j<i<;>simp[mo]
 rw[hf2];rfl
def qoa(fs:List Foot)(o:List Nat):List Nat:=(List.range fs.length).filter fun i=>!o.contains i&&(List.range i).all fun j=>o.contains j||!pk fs j i
def p7(fs:List Foot)(choices:List Int):Nat→List Nat
 | 0=>[]
 |n+1=>p7 fs choices n++[(qoa fs (p7 fs choices n)).getD (quv choices n (qoa fs (p7 fs choices n)).length) 0]
section
variable {fs:List Foot} {o:List Nat}
theorem xp7(hL:Leg fs o)(jr:o.length<fs.length):0<(qoa fs o).length:=by
 have hex:∃n,n<fs.length∧n∉o:=qmi fun iz=>by
  have:∀x∈List.range fs.length,x∈o:=fun x hx=>qmi fun hx2=>iz ⟨x,eh.1 hx,hx2⟩;have:=xc3 (List.range fs.length) o List.nodup_range this;rw[List.length_range]at this;omega
 obtain⟨n,⟨h1,h2⟩,h3⟩:=least (P:=fun n=>n<fs.length∧n∉o) hex;refine List.length_pos_of_mem (a:=n) (fe.2 ⟨eh.2 h1,?_⟩);simp only[c0,qls,List.contains_eq_mem,decide_eq_false_iff_not,dw,fv,decide_eq_true_eq];refine⟨h2,fun j hj=>.inl (qmi fun iz=>h3 j (eh.1 hj) ⟨by have:=eh.1 hj;omega,iz⟩)⟩
theorem jjp(hL:Leg fs o){j:Nat}(hj:j∈qoa fs o):Leg fs (o++[j]):=by
 obtain⟨h1,h2⟩:=fe.1 hj;simp only[c0,qls,List.contains_eq_mem,decide_eq_false_iff_not,dw,fv,decide_eq_true_eq]at h2;refine .snoc hL (eh.1 h1) h2.1 fun i hi hc=>?_;rcases h2.2 i (eh.2 hi)with h|h
 ·exact h
 ·rw[hc]at h;cases h
theorem xd9(fs:List Foot)(choices:List Int):∀n,n≤fs.length→Leg fs (p7 fs choices n)∧(p7 fs choices n).length=n
 | 0,_=>⟨.nil,rfl⟩
 |n+1,h=>by
  obtain⟨i1,i2⟩:=xd9 fs choices n aa;have ii:=xp7 i1 aa;refine⟨jjp i1 ?_,by simp[p7,i2]⟩;have ib:=xot (choices:=choices) (step:=n) ii;rw[fg,da ib];exact c9 _
def qri(n:Nat)(o:List Nat):List Nat:=(List.range n).filter fun i=>!o.contains i
theorem jaj(n:Nat)(o:List Nat)(j:Nat):(qri n o).filter (fun i=>!decide (i=j))=qri n (o++[j]):=by
 unfold qri;rw[List.filter_filter];refine qmh fun i _=>?_;simp only[List.contains_eq_mem,dt,ei];by_cases a:i∈o<;>by_cases b:i=j<;>simp[a,b]
theorem jl0(fs:List Foot)(o:List Nat)(f:Nat→Foot)(hfs:∀i (h:i<fs.length),f i=nw fs[i]) :
  ((qri fs.length o).filter fun i=>(qri fs.length o).all fun j=>!(decide (j<i)&&th (f j) (f i)))=qoa fs o:=by
 unfold qri qoa;rw[List.filter_filter];refine qmh fun i hi=>?_;have nq:=eh.1 hi;by_cases ho:i∈o
 ·simp[ho]
 ·simp only[List.contains_eq_mem,ho,decide_false,Bool.not_false,fh,fl];rw[Bool.eq_iff_iff,dw,dw];have hcn:∀j (hj:j<fs.length),th (f j) (f i)=pk fs j i:=fun j hj=>by
   rw[hfs j hj,hfs i nq,xwp];simp[pk,hj,nq]
  constructor
  ·intro g j hj;have mo:=eh.1 hj;have se:j<fs.length:=aa;by_cases kg:j∈o
   ·simp[kg]
   ·have:=g j (fe.2 ⟨eh.2 se,by simp[kg]⟩);rw[hcn j se]at this;simpa[mo,kg]using this
  ·intro g j hj;obtain⟨h1,h2⟩:=fe.1 hj;have se:=eh.1 h1;have kg:j∉o:=ca;by_cases mo:j<i
   ·have:=g j (eh.2 mo);rw[hcn j se];simpa[mo,kg]using this
   ·simp[mo]
end
end Go.Cw
