/- Part 23 of a proof. -/
import Derived.Test.YtolejdhnnchfpaaGreatDoorQ22
set_option linter.all false
namespace Go.Cw
open Go Go.Abs
def qw0(f:Foot):Foot:=if qa f.all f.reads f.writes=true then f else⟨true,[],[]⟩
def jgz(a b:Foot):Bool:=if b.all=true then true else if a.all=true then decide (0<b.reads.length)else a.writes.any λk=>l8 b.reads k
def jd6(l:List Foot)(j:Nat)(f:Foot):List Nat:=(List.range j).filter λi=>match l[i]? with|some g=>jgz (qw0 g) (qw0 f)|none=>false
section
variable {fmt:Int->ig}
theorem xp5{s:List Pr}{e:Eff}(hs:jl s=true)(he:e.status=1->r9 e.writes=true)(k:ig):jw (qxq s e) k=if yw e k=true then jw e.writes k else jw s k:=by
 unfold qxq yw;by_cases h:e.status=1
 .have hw:=he h;rw[if_pos ⟨h,hs,hw⟩];obtain⟨w1,w2,w3⟩:=(qbp _).1 hw;rw[xar ((tn s).1 hs).2.2 w3 w1];simp[h]
 .grind
def ym(fmt:Int->ig)(procs:List Proc)(s:List Pr)(l:List Txn)(i:Nat):List Pr:=(qt fmt procs s (l.take i)).1
def yu(fmt:Int->ig)(procs:List Proc)(s:List Pr)(l:List Txn)(i:Nat)(t:Txn):Eff:=(ru fmt procs (ym fmt procs s l i) t).2
theorem xtu{procs:List Proc}{s:List Pr}{l:List Txn}{i:Nat}(h:i<l.length):ym fmt procs s l (i+1)=(ru fmt procs (ym fmt procs s l i) l[i]).1:=by grind[ec,xet,ym]
theorem xhi{procs:List Proc}{s:List Pr}:∀(l:List Txn),(qt fmt procs s l).2.length=l.length :=
 xhz (by rfl) λl t ih=>by rw[xet];simp[ih]
theorem jel{procs:List Proc}{s:List Pr}:∀(l:List Txn) (i:Nat) (h:i<l.length),(qt fmt procs s l).2[i]?=some (yu fmt procs s l i l[i]):=by
 refine xhz (λi h=>by simp at h) λl t ih i h=>?_;rw[xet];by_cases hi:i<l.length
 .grind[xhi,List.getElem_append_left,yu,ym]
 .have e:i=l.length:=by simp at h;omega
  subst e;have hl:=xhi (fmt:=fmt) (procs:=procs) (s:=s) l;rw[cx aa,hl];simp[yu,ym]
structure MvIn(fmt:Int->ig)(procs:List Proc)(s:List Pr)(l:List Txn)(effs:List Eff)(done:List Bool):Prop where
 le:effs.length=l.length
 ld:done.length=l.length
 ok:∀i (h:i<l.length),done.getD i false=true->effs[i]?=some (yu fmt procs s l i l[i])
section
variable {procs:List Proc} {s:List Pr} {l:List Txn} {effs:List Eff} {done:List Bool}
theorem xqv(hB:BatchIn fmt procs l)(hs:l6 s){i:Nat}(h:i<l.length):OneOk (ym fmt procs s l i) (ru fmt procs (ym fmt procs s l i) l[i]) :=
 xsx hB.fmt hB.body (hB.args _ (dk h)) (xay hs _ (hB.take i)).rng
theorem xd4(hB:BatchIn fmt procs l)(hs:l6 s)(h0:jl s=true)(i:Nat):jl (ym fmt procs s l i)=true:=(xay hs _ (hB.take i)).ok h0
theorem xyu{t:Txn}{k:ig}(h:k∈(ru fmt procs s t).2.reads):qa t.ft.all t.ft.reads t.ft.writes=true/\(t.ft.all=true\/l8 t.ft.reads k=true):=by
 unfold ru at h;split at h
 .cases h
 .rename_i p hp;have h:k∈(oi fmt p t.args s t.ft).reads:=af;refine⟨?_,(jbd h).2.2⟩;by_cases hr:qkn p t.args s t.ft
  .exact((qcp _ _ _ _).1 hr).2.2.2
  .rw[qod hr]at h;cases h
theorem jen{t:Txn}{k:ig}(hB:BatchIn fmt procs [t])(hs:l6 s)(h:yw (ru fmt procs s t).2 k=true):qa t.ft.all t.ft.reads t.ft.writes=true/\(t.ft.all=true\/l8 t.ft.writes k=true):=by
 unfold ru at h;split at h
 .grind[yw,yj]
 .rename_i p hp;have h:yw (oi fmt p t.args s t.ft) k=true:=af;unfold yw at h;simp only[cw,decide_eq_true_eq]at h;have hI:RunIn fmt p t.args s:=⟨hB.fmt,hB.body p (xjx hp).1,hB.args t ac,hs⟩
  have hc:=(xeg (ft:=t.ft) hI h.1).1;have hk:k∈(oi fmt p t.args s t.ft).puts:=by grind[qdj]
  refine⟨?_,(xua hk).2⟩;by_cases hr:qkn p t.args s t.ft
  .exact((qcp _ _ _ _).1 hr).2.2.2
  .grind[qod,yj]
end
end
theorem xpg:∀(l m:List Nat),l.Nodup->(∀x∈l,x∈m)->l.length<=m.length
 | [],m,_,_=>by simp
 |x::l,m,hd,h=>by
  have hx:=h x ac;have sn:=qiy.1 hd;have h1:=xpg l (m.erase x) sn.2 (λy hy=>(List.mem_erase_of_ne af).2 (h y ck));rw[List.length_erase_of_mem hx]at h1;have h2:0<m.length:=qj2 hx;simp only[dy];omega
theorem jin(n:Nat)(l:List Nat)(hd:l.Nodup)(h:∀x∈l,x<n):l.length<=n:=by
 have:=xpg l (List.range n) hd (λx hx=>ga.2 (h x hx));simpa using this
theorem jcj{n:Nat}{l:List Nat}(hd:l.Nodup)(h:∀x∈l,x<n)(hl:l.length=n):∀j,j<n->j∈l:=λj hj=>by
 by_cases hm:j∈l
 .exact hm
 .have h1:=jin n (j::l) (qiy.2 ⟨hm,hd⟩) (λx hx=>by
   rcases c0.1 hx with rfl|hx
   .exact hj
   .exact h x hx)
  simp at h1;omega
def jfw(fs:List Foot)(j:Nat):List Nat:=match fs[j]? with|some f=>jd6 fs j f|none=>[]
def qrh(choices:List Int)(step n:Nat):Nat:=match choices[step]? with|some c=>if c<0 then 0 else(c.toNat % n)|none=>0
section
variable (fmt:Int->ig)
end
structure MvJ(fmt:Int->ig)(procs:List Proc)(s:List Pr)(l:List Txn)(n:Nat)(x:List Eff×List Bool×List Nat):Prop where
 inv:MvIn fmt procs s l x.1 x.2.1
 len:x.2.2.length=n
 nod:x.2.2.Nodup
 mem:∀j,x.2.1.getD j false=true↔j∈x.2.2
 lt:∀j∈x.2.2,j<l.length
 dep:∀a (h:a<x.2.2.length),∀i∈jfw (l.map (·.ft)) x.2.2[a],i∈x.2.2.take a
section
variable {fmt:Int->ig} {procs:List Proc} {s:List Pr} {l:List Txn} {choices:List Int}
theorem jeu{step n:Nat}(h:0<n):qrh choices step n<n:=by
 unfold qrh;split
 .split
  .exact h
  .exact Nat.mod_lt _ h
 .exact h
end
def qmk(a b:List ig):Bool:=a.any λk=>l8 b k
def qmm(a b:Foot):Bool :=
 if qa a.all a.reads a.writes=false\/qa b.all b.reads b.writes=false\/a.all=true\/b.all=true then true
 else qmk a.writes b.writes||(qmk a.writes b.reads||qmk a.reads b.writes)
section
variable {fmt:Int->ig} {procs:List Proc} {s:List Pr}
end
theorem xuv:qa true [] []=true:=by simp[qa]
theorem jdb(f:Foot):qa (qw0 f).all (qw0 f).reads (qw0 f).writes=true:=by grind[qw0,xuv]
structure Ord(n:Nat)(o:List Nat)(at':List Int):Prop where
 len:o.length=n
 la:at'.length=n
 lt:∀k∈o,k<n
 nod:o.Nodup
 at_:∀a (h:a<o.length),at'.getD o[a] (-1)=a
theorem Ord.get{n:Nat}{o:List Nat}{at':List Int}(h:Ord n o at'){k:Nat}(hk:k<n):∃a,∃ha:a<o.length,o[a]=k/\at'.getD k (-1)=a:=by
 have hm:=jcj h.nod h.lt h.len k hk;obtain⟨a,ha,rfl⟩:=List.mem_iff_getElem.1 hm;exact⟨a,ha,rfl,h.at_ a ha⟩
structure Pl(n:Nat)(q:List Nat)(m:List Int):Prop where
 la:m.length=n
 lt:∀k∈q,k<n
 nod:q.Nodup
 ok:∀a (h:a<q.length),m.getD q[a] (-1)=a
 no:∀k,k∉q->m.getD k (-1) = -1
theorem xq9{α:Type}(m:List α)(k j:Nat)(v d:α)(h:k<m.length):(m.set k v).getD j d=if k=j then v else m.getD j d:=af
theorem Pl.mem{n:Nat}{q:List Nat}{m:List Int}(h:Pl n q m)(k:Nat):0<=m.getD k (-1)↔k∈q:=by
 constructor
 .intro h0;by_cases hk:k∈q
  .exact hk
  .rw[h.no k hk]at h0;omega
 .intro hk;obtain⟨a,ha,rfl⟩:=List.mem_iff_getElem.1 hk;rw[h.ok a ha];omega
theorem Pl.step{n:Nat}{q:List Nat}{m:List Int}(h:Pl n q m){k:Nat}(hk:k<n)(hq:k∉q):Pl n (q++[k]) (m.set k q.length):=by
 have hl:k<m.length:=by rw[h.la];exact hk
 refine⟨by simp[h.la],λx hx=>?_,?_,λa ha=>?_,λx hx=>?_⟩
 .rcases dw.1 hx with hx|hx
  .exact h.lt x hx
  .grind
 .rw[qjm];refine⟨h.nod,ac,λx hx y hy e=>?_⟩;simp at hy;subst hy e;exact hq hx
 .rw[xq9 _ _ _ _ _ hl];by_cases h1:a<q.length
  .rw[List.getElem_append_left h1,if_neg (λe=>hq af)];exact h.ok a h1
  .grind
 .simp only[dw,ep,not_or]at hx;rw[xq9 _ _ _ _ _ hl,if_neg (λe=>hx.2 e.symm)];exact h.no x hx.1
theorem Pl.nil(n:Nat):Pl n [] (List.replicate n (-1)):=⟨ac,ac,ac,ac,λk _=>by
 simp only[qkg,qkf];split<;>rfl⟩
def xep(fs:List Foot)(i j:Nat):Bool:=match fs[i]?,fs[j]? with|some a,some b=>qmm a b|_,_=>false
theorem xkp(a b:List ig):qmk a b=qmk b a:=by grind[gc,wm,qmk]
theorem jgf(a b:Foot):qmm a b=qmm b a:=by
 unfold qmm;by_cases h:qa a.all a.reads a.writes=false\/qa b.all b.reads b.writes=false\/a.all=true\/b.all=true
 .grind
 .rw[if_neg h,if_neg (λg=>h af),xkp a.writes b.writes,xkp a.writes b.reads,xkp a.reads b.writes,Bool.or_comm (qmk b.reads a.writes)]
section
variable (fmt:Int->ig)
end
inductive Leg(fs:List Foot):List Nat->Prop
 |nil:Leg fs []
 |snoc {o:List Nat} {j:Nat}:Leg fs o->j<fs.length->j∉o->(∀i,i<j->xep fs i j=true->i∈o)->Leg fs (o++[j])
section
variable {fs:List Foot} {o:List Nat}
theorem Leg.cl(h:Leg fs o):∀n∈o,∀i,i<n->xep fs i n=true->i∈o:=by
 induction h with
 |nil=>intro n hn;cases hn
 |snoc h hj kf hc ih =>
  intro n hn i hi hx;simp only[dw,ep]at hn|-;rcases hn with hn|rfl
  .grind
  .grind
theorem Leg.lt(h:Leg fs o):∀n∈o,n<fs.length:=by
 induction h with
 |nil=>intro n hn;cases hn
 |snoc h hj kf hc ih =>
  intro n hn;simp only[dw,ep]at hn;rcases hn with hn|rfl
  .grind
  .exact hj
theorem Leg.nod(h:Leg fs o):o.Nodup:=by
 induction h with
 |nil=>exact qjb
 |snoc h hj kf hc ih=>exact qjm.2 ⟨ih,ac,λa ha b hb=>by simp at hb;subst hb;rintro rfl;exact kf ha⟩
theorem Leg.at(h:Leg fs o):∀a (ha:a<o.length) i,i<o[a]->xep fs i o[a]=true->i∈o.take a:=by
 induction h with
 |nil=>intro a ha;cases ha
 | @snoc o j h hj kf hc ih =>
  intro a ha i hi hx;by_cases e:a<o.length
  .grind
  .grind
end
theorem xga{a b:List Pr}(ha:jl a=true)(hb:jl b=true)(h:∀k,jw a k=jw b k):a=b:=by
 obtain⟨a1,a2,a3⟩:=(tn a).1 ha;obtain⟨b1,b2,b3⟩:=(tn b).1 hb;have half:∀{a b:List Pr},(∀p∈a,okW p.v/\p.v.k≠0)->kg (pb a)->(∀k,jw a k=jw b k)->∀q∈a,q∈b:=λ{a b} h1 h2 h q hq=>by
  have h3:=xb1 h2 hq;have h4:jw b q.key≠V.nil:=by
   rw[<-h,h3];intro e;have:=(h1 q hq).2;rw[e]at this;exact this rfl
  have h5:=xa1 h4;rw[<-h,h3]at h5;exact h5
 exact qz5 a3 b3 λq=>⟨half a1 a3 h q,half b1 b3 (λk=>(h k).symm) q⟩
section
variable {fmt:Int->ig} {procs:List Proc} {s:List Pr} {l:List Txn}
theorem jge(hB:BatchIn fmt procs l){j:Nat}(h:j<l.length):BatchIn fmt procs [l[j]]:=⟨hB.fmt,hB.body,λx hx=>by simp at hx;subst hx;exact hB.args _ (dk h)⟩
theorem xuw{a b:Foot}{k:ig}(ha:qa a.all a.reads a.writes=true)(hb:qa b.all b.reads b.writes=true)(h1:a.all=true\/l8 a.writes k=true)(h2:b.all=true\/l8 b.reads k=true\/l8 b.writes k=true):qmm a b=true:=by
 unfold qmm;split
 .rfl
 .rename_i hc;simp only[not_or,Bool.not_eq_false,Bool.not_eq_true]at hc;have h1:l8 a.writes k=true:=h1.resolve_left af;rcases h2.resolve_left af with h2|h2
  .have:qmk a.writes b.reads=true:=gc.2 ⟨k,wm.1 h1,h2⟩;simp[this]
  .have:qmk a.writes b.writes=true:=gc.2 ⟨k,wm.1 h1,h2⟩;simp[this]
structure ExOk(fmt:Int->ig)(procs:List Proc)(s:List Pr)(l:List Txn)(o:List Nat)(x:List Pr×List Eff):Prop where
 rng:l6 x.1
 len:x.1.length<=s.length+64 * o.length
 cnt:x.2.length=l.length
 ok:jl s=true->jl x.1=true
 no:jl s=false->x.1=s
 eff:∀j (h:j<l.length),j∈o->x.2[j]?=some (yu fmt procs s l j l[j])
 get:jl s=true->∀k i,i<=l.length->(∀n (h:n<l.length),yw (yu fmt procs s l n l[n]) k=true->(n∈o↔n<i))->jw x.1 k=jw (ym fmt procs s l i) k
theorem xg1(hB:BatchIn fmt procs l)(hs:l6 s)(h0:jl s=true)(k:ig)(a:Nat):∀b,a<=b->b<=l.length->(∀n (h:n<l.length),a<=n->n<b->yw (yu fmt procs s l n l[n]) k=false)->jw (ym fmt procs s l b) k=jw (ym fmt procs s l a) k
 | 0,h,_,_=>by rw[show a=0 by omega]
 |b+1,h,hb,hw=>by
  by_cases e:a=b+1
  .rw[e]
  .have ih:=xg1 hB hs h0 k a b aa aa λn h h1 h2=>hw n h h1 aa;have hO:=xqv hB hs (show b<l.length by omega);rw[xtu aa,hO.upd,xp5 (xd4 hB hs h0 b) (λh=>(hO.com h).2),<-ih];have:=hw b aa aa aa;unfold yu at this;rw[if_neg af]
theorem xw6(hB:BatchIn fmt procs l)(hs:l6 s){n:Nat}(h:n<l.length){k:ig}(hw:yw (yu fmt procs s l n l[n]) k=true):qa l[n].ft.all l[n].ft.reads l[n].ft.writes=true/\(l[n].ft.all=true\/l8 l[n].ft.writes k=true) :=
 jen (jge hB h) (xay hs _ (hB.take n)).rng hw
theorem xxk{n:Nat}(h:n<l.length){k:ig}(hk:k∈(yu fmt procs s l n l[n]).reads):qa l[n].ft.all l[n].ft.reads l[n].ft.writes=true/\(l[n].ft.all=true\/l8 l[n].ft.reads k=true) :=
 xyu hk
end
abbrev fOk(f:Foot):Bool:=qa f.all f.reads f.writes
def pf(p:Plc)(f:Foot):Bool:=jy p&&fOk f
def l9(p:Plc)(f:Foot):List Int:=if pf p f=false then []else if f.all=true then nq p else qmi ((f.reads++f.writes).map (ly p))
def qr7(p:Plc)(f:Foot):List Int:=if pf p f=false then []else if f.all=true then nq p else qmi (f.writes.map (ly p))
def xe5(p:Plc):Int:=match p.parts with| []=>0|x::_=>x.node
def ma(p:Plc)(f:Foot):List Int :=
 if pf p f=false then []else if 0<(qr7 p f).length then qr7 p f else if 0<(l9 p f).length then(l9 p f).take 1 else [xe5 p]
def ql6(p:Plc)(l:List ig)(n:Int):List ig:=l.filter λk=>decide (ly p k=n)
def qrb(p:Plc)(f:Foot)(n:Int):Foot :=
 if pf p f=false then⟨false,[],[]⟩else if f.all=true then⟨(nq p).any λx=>decide (x=n),[],[]⟩else⟨false,ql6 p f.reads n,ql6 p f.writes n⟩
def rdF(f:Foot)(k:ig):Prop:=f.all=true\/k∈f.reads
def wrF(f:Foot)(k:ig):Prop:=f.all=true\/k∈f.writes
section
variable {p:Plc} {f:Foot}
theorem qnm(h:pf p f=true):jy p=true/\fOk f=true:=by grind[pf]
theorem jed(h:jy p=true):xe5 p∈nq p:=by
 have hl:=qdb h;rw[show nq p=qmi (y5 p.parts)from if_pos h,qsf];unfold xe5 y5;cases hp:p.parts with
 |nil=>rw[hp]at hl;simp at hl
 |cons x l =>
  refine qjt.2 ⟨x,ac,?_⟩;simp only;split<;>simp
theorem xee(h:pf p f=true):∀n∈l9 p f,n∈nq p:=λn hn=>by
 unfold l9 at hn;rw[if_neg bx]at hn;split at hn
 .exact hn
 .obtain⟨k,_,rfl⟩:=cy.1 (qsf.1 hn);exact qx7 (qnm h).1 k
theorem xs4(h:pf p f=true):∀n∈qr7 p f,n∈l9 p f:=λn hn=>by grind[qsf,qr7,l9]
theorem xre(p:Plc)(f:Foot):(l9 p f).Pairwise (· < ·):=by
 unfold l9;split
 .exact .nil
 split
 .exact xba p
 .exact qzv _
theorem xv8(p:Plc)(f:Foot):(qr7 p f).Pairwise (· < ·):=by
 unfold qr7;split
 .exact .nil
 split
 .exact xba p
 .exact qzv _
theorem jjc(p:Plc)(f:Foot):(ma p f).Pairwise (· < ·):=by
 unfold ma;split
 .exact .nil
 split
 .exact xv8 p f
 split
 .grind[xre]
 .simp
theorem jhk(h:pf p f=true):ma p f≠[]:=by grind[ey,ed,ma]
theorem xt2(h:pf p f=true):∀n∈ma p f,n∈nq p:=λn hn=>by
 unfold ma at hn;rw[if_neg bx]at hn;split at hn
 .exact xee h n (xs4 h n hn)
 split at hn
 .grind[xee]
 .simp only[ep]at hn;subst hn;exact jed (qnm h).1
theorem xsb(h:pf p f=true){k:ig}(hk:wrF f k):ly p k∈qr7 p f:=by
 unfold qr7;rw[if_neg bx];split
 .exact qx7 (qnm h).1 k
 .rename_i ha;rw[qsf];exact cy.2 ⟨k,hk.resolve_left ha,rfl⟩
theorem xlw(h:pf p f=true){k:ig}(hk:wrF f k):ly p k∈ma p f:=by
 have:=xsb h hk;unfold ma;rw[if_neg bx,if_pos (qj2 this)];exact this
theorem xjh(h:pf p f=true){k:ig}(hk:wrF f k):ly p k∈l9 p f:=xs4 h _ (xsb h hk)
theorem jeq(h:pf p f=true){k:ig}(hk:rdF f k):ly p k∈l9 p f:=by
 unfold l9;rw[if_neg bx];split
 .exact qx7 (qnm h).1 k
 .rename_i ha;rw[qsf];exact cy.2 ⟨k,by simp[hk.resolve_left ha],rfl⟩
theorem xiy(h:pf p f=true)(n:Int):fOk (qrb p f n)=true:=by
 have hf:=(qnm h).2;unfold qrb;rw[if_neg bx];split
 .rcases(nq p).any λx=>decide (x=n)with _|_<;>rfl
 .rename_i ha;have ha:f.all=false:=af;unfold fOk qa at hf|-;rw[ha,if_neg ac]at hf;rw[if_neg ac];simp only[cw,decide_eq_true_eq]at hf|-;have key:∀{l:List ig},qkl none l=true->(l.length:Int)<=64->qkl none (ql6 p l n)=true/\((ql6 p l n).length:Int)<=64:=λ{l} h1 h2=>by
   obtain⟨a1,a2,_⟩:=(xbl _ _).1 h1;have na:(ql6 p l n).Sublist l:=List.filter_sublist;refine⟨(xbl _ _).2 ⟨λk hk=>a1 k (na.subset hk),List.Pairwise.sublist na a2,ac⟩,?_⟩;have:=na.length_le;omega
  exact⟨key hf.1.1 hf.1.2,key hf.2.1 hf.2.2⟩
theorem xkn{a b:Foot}(ha:pf p a=true)(hb:pf p b=true){k:ig}(h1:wrF a k)(h2:rdF b k\/wrF b k):qmm (qrb p a (ly p k)) (qrb p b (ly p k))=true:=by
 have hn:((nq p).any λx=>decide (x=ly p k))=true:=gc.2 ⟨_,qx7 (qnm ha).1 k,ac⟩;refine xuw (k:=k) (xiy ha _) (xiy hb _) ?_ ?_
 .unfold qrb;rw[if_neg (by simp[ha])];split
  .grind
  .rename_i h;exact .inr (wm.2 (e9.2 ⟨h1.resolve_left h,ac⟩))
 .unfold qrb;rw[if_neg (by simp[hb])];split
  .grind
  .rename_i h;rcases h2 with h2|h2
   .exact .inr (.inl (wm.2 (e9.2 ⟨h2.resolve_left h,ac⟩)))
   .exact .inr (.inr (wm.2 (e9.2 ⟨h2.resolve_left h,ac⟩)))
end
structure Mail where
 txn:Int
 frm:Int
 to:Int
 keys:List ig
 prs:List Pr
def Mail.c(m:Mail):List AV:=[I m.txn,I m.frm,I m.to,.slice (m.keys.map ja),.slice (m.prs.map Pr.c)]
def eqM(a b:Mail):Bool:=decide (a.txn=b.txn)&&decide (a.frm=b.frm)&&decide (a.to=b.to)&&mm zu a.keys b.keys&&mm yd a.prs b.prs
theorem xam{α:Type}{f:α->α->Bool}(hf:∀a b,f a b=true↔a=b):∀{l m:List α},mm f l m=true↔l=m
 | [],[]=>by simp[mm]
 | [],y::m=>by simp[mm]
 |x::l,[]=>by simp[mm]
 |x::l,y::m=>by rw[mm,cw,hf,xam hf,List.cons.injEq]
theorem jh7(a b:ig):zu a b=true↔a=b:=by simp[zu]
theorem xt7(a b:Pr):yd a b=true↔a=b:=by
 obtain⟨k,⟨x,y,z⟩⟩:=a;obtain⟨k',⟨x',y',z'⟩⟩:=b;simp[yd,wn]
theorem xsm(a b:Mail):eqM a b=true↔a=b:=by
 obtain⟨t,f,o,k,l⟩:=a;obtain⟨t',f',o',k',l'⟩:=b;unfold eqM;simp only[cw,decide_eq_true_eq,xam jh7,xam xt7,Mail.mk.injEq,and_assoc]
def ws(a b:List Pr):List Pr×Int:=if jl a=false\/jl b=false then([],1)else if b.any (λx=>nf a x.key)=true then([],8)else(rx a b,0)
def qtc(t n:Int)(m:Mail):Bool:=decide (m.txn=t)&&decide (m.to=n)
def uj(t n:Int)(l:List Mail):List Mail:=l.foldl (λiw m=>if (qtc t n m&&!iw.any (λx=>eqM x m))=true then iw++[m]else iw) []
def qq5:List Mail->List Mail->List Pr->List Pr×Int
 |_,[],out=>(out,0)
 |pre,m::l,out=>if pre.any (λx=>decide (x.frm=m.frm))=true then([],8)else if (ws out m.prs).2≠0 then([],8)else qq5 (pre++[m]) l (ws out m.prs).1
def u3(t n:Int)(l:List Mail):List Pr×Int :=
 if (uj t n l).length=0 then([],9)else if (uj t n l).any (λm=>!jl m.prs)=true then([],1)else qq5 [] (uj t n l) []
theorem qyg(t n:Int):∀(l iw:List Mail),iw.Nodup->(l.foldl (λiw m=>if (qtc t n m&&!iw.any (λx=>eqM x m))=true then iw++[m]else iw) iw).Nodup /\
  ∀m,m∈l.foldl (λiw m=>if (qtc t n m&&!iw.any (λx=>eqM x m))=true then iw++[m]else iw) iw↔m∈iw\/(m∈l/\qtc t n m=true)
 | [],iw,h=>⟨h,λm=>by simp⟩
 |y::l,iw,h=>by
  rw[fj];by_cases hc:(qtc t n y&&!iw.any (λx=>eqM x y))=true
  .rw[if_pos hc];simp only[cw,gv,List.any_eq_false,xsm]at hc;obtain⟨h1,h2⟩:=qyg t n l (iw++[y]) (qjm.2 ⟨h,ac,λa ha b hb=>by simp at hb;subst hb;exact hc.2 a ha⟩);refine⟨h1,λm=>(h2 m).trans ?_⟩;simp only[dw,c0,qjc,or_false];constructor
   .grind
   .grind
  .rw[if_neg hc];obtain⟨h1,h2⟩:=qyg t n l iw h;refine⟨h1,λm=>(h2 m).trans ?_⟩;simp only[c0];constructor
   .grind
   .rintro(h|⟨rfl|h,h3⟩)
    .grind
    .simp_all[dh,gv,Bool.not_eq_false,gc,xsm]
    .grind
theorem xbq{t n:Int}{l:List Mail}{m:Mail}:m∈uj t n l↔m∈l/\m.txn=t/\m.to=n:=by
 have:=(qyg t n l [] .nil).2 m;unfold uj;rw[this];simp[qtc]
theorem jh6(t n:Int)(l:List Mail):(uj t n l).Nodup:=(qyg t n l [] .nil).1
theorem qyu{a b:List Pr}(ha:jl a=true)(hb:jl b=true)(k:ig):jw (rx a b) k=if nf b k=true then jw b k else jw a k:=by
 obtain⟨a1,a2,a3⟩:=(tn a).1 ha;obtain⟨b1,b2,b3⟩:=(tn b).1 hb;exact xar a3 b3 (λq hq=>(b1 q hq).1) k
theorem xer{a:List Pr}{k:ig}(h:nf a k=false):jw a k=V.nil:=xau (xbh.1 h)
theorem xqe{own:ig->Int}:∀(l pre:List Mail) (out:List Pr),((pre++l).map (·.frm)).Nodup->(∀m∈l,jl m.prs=true/\l6 m.prs/\∀q∈m.prs,own q.key=m.frm)->jl out=true->l6 out->(∀q∈out,own q.key∈pre.map (·.frm)) ->
  ∃qlq,qq5 pre l out=(qlq,0)/\jl qlq=true/\l6 qlq/\∀k,(∀m∈l,own k=m.frm->jw qlq k=jw m.prs k)/\((∀m∈l,own k≠m.frm)->jw qlq k=jw out k)
 | [],pre,out,_,_,h,hr,_=>⟨out,by rw[qq5],h,hr,λk=>⟨λm hm=>qip,λ_=>rfl⟩⟩
 |m::l,pre,out,hn,hl,h,hr,ho=>by
  obtain⟨m1,m2,m3⟩:=hl m ac;have hn':((pre++[m]++l).map (·.frm)).Nodup:=af
  have tq:∀x∈pre,x.frm≠m.frm:=λx hx e=>by grind
  have hfl:∀x∈l,x.frm≠m.frm:=λx hx e=>by grind
  have hu:ws out m.prs=(rx out m.prs,0):=by
   unfold ws;rw[if_neg af,if_neg];simp only[gc,not_exists,not_and];intro x hx hh;obtain⟨q,hq,e⟩:=cy.1 (qdj.1 hh);obtain⟨y,hy,e2⟩:=cy.1 (ho q hq);rw[e,m3 x hx]at e2;exact tq y hy e2
  have wy:r9 m.prs=true:=by
   obtain⟨b1,b2,b3⟩:=(tn m.prs).1 m1;exact(qbp _).2 ⟨λq hq=>(b1 q hq).1,b2,b3⟩
  have ha:=xan h wy;have wt:=xcr hr m2 h wy;have qrg:∀q∈rx out m.prs,own q.key∈(pre++[m]).map (·.frm):=λq hq=>by
   have hg:=xb1 ((tn _).1 ha).2.2 hq;rw[qyu h m1]at hg;rcases hx:nf m.prs q.key with _|_
   .rw[hx,if_neg ac]at hg;have it:jw out q.key≠V.nil:=by
     rw[hg];intro e;have:=(((tn _).1 ha).1 q hq).2;rw[e]at this;exact this rfl
    have:=ho _ (xa1 it);simp only[eg,dw];exact .inl this
   .obtain⟨x,hx,e⟩:=cy.1 (qdj.1 hx);rw[<-e,m3 x hx];simp
  obtain⟨qlq,g1,g2,g3,g4⟩:=xqe l (pre++[m]) (rx out m.prs) hn' (λx hx=>hl x bu) ha wt qrg;refine⟨qlq,?_,g2,g3,λk=>⟨λx hx e=>?_,λhk=>?_⟩⟩
  .grind[qq5,gc]
  .rcases c0.1 hx with rfl|hx
   .rw[(g4 k).2 (λy hy=>by rw[e];exact(hfl y hy).symm),qyu h m1];split
    .rfl
    .rename_i hh;rw[xer (k:=k) (a:=x.prs) af,xer];rcases hz:nf out k with _|_
     .rfl
     .obtain⟨q,hq,e1⟩:=cy.1 (qdj.1 hz);obtain⟨y,hy,e2⟩:=cy.1 (ho q hq);rw[e1,e]at e2;exact(tq y hy e2).elim
   .grind
  .rw[(g4 k).2 (λy hy=>hk y ck),qyu h m1,if_neg];intro hh;obtain⟨x,hx,e⟩:=cy.1 (qdj.1 hh);exact hk m ac af
theorem jap{own:ig->Int}{t n:Int}{l:List Mail}(hu:∀m∈l,∀x∈l,m.txn=t->x.txn=t->m.to=n->x.to=n->m.frm=x.frm->m=x)(hl:∀m∈l,m.txn=t->m.to=n->jl m.prs=true/\l6 m.prs/\∀q∈m.prs,own q.key=m.frm) :
  jl (u3 t n l).1=true/\l6 (u3 t n l).1/\∀k,(∀m∈l,m.txn=t->m.to=n->own k=m.frm->jw (u3 t n l).1 k=jw m.prs k)/\((∀m∈l,m.txn=t->m.to=n->own k≠m.frm)->jw (u3 t n l).1 k=V.nil):=by
 have hm:∀m∈uj t n l,jl m.prs=true/\l6 m.prs/\∀q∈m.prs,own q.key=m.frm:=λm hm=>by grind[xbq]
 have hnd:((uj t n l).map (·.frm)).Nodup:=by grind[List.Nodup,List.Pairwise.imp_of_mem,jh6,xbq]
 unfold u3;split
 .rename_i h0;have h0:=qjp.1 h0;refine⟨rfl,by simp[l6],λk=>⟨λm hm h1 h2 _=>?_,λ_=>rfl⟩⟩;have:m∈uj t n l:=xbq.2 ⟨hm,h1,h2⟩;rw[h0]at this;cases this
 .rw[if_neg]
  .obtain⟨qlq,g1,g2,g3,g4⟩:=xqe (own:=own) (uj t n l) [] [] af hm rfl (by simp[l6]) ac;rw[g1];refine⟨g2,g3,λk=>⟨λm hm h1 h2 e=>(g4 k).1 m (xbq.2 ⟨hm,h1,h2⟩) e,λh=>(g4 k).2 λm hm=>?_⟩⟩;obtain⟨h1,h2,h3⟩:=xbq.1 hm;exact h m h1 h2 h3
  .grind
structure LReq where
 t:Int
 w:Bool
structure LQ where
 key:ig
 reqs:List LReq
structure LT where
 glob:List LReq
 qs:List LQ
def LReq.c(r:LReq):List AV:=[I r.t,Bo r.w]
def LQ.c(q:LQ):List AV:=[S q.key,.slice (q.reqs.map LReq.c)]
def LT.c(t:LT):List AV:=[.slice (t.glob.map LReq.c),.slice (t.qs.map LQ.c)]
abbrev lu(l:List LQ):List ig:=l.map (·.key)
def qo0:Option Int->List LReq->Bool
 |_,[]=>true
 |q,r::l=>(!decide (r.t<0)&&q.elim true λp=>decide (p<r.t))&&qo0 (some r.t) l
def inG(g:List LReq)(t:Int):Bool:=match g.find? λx=>decide (x.t=t)with|some x=>!x.w|none=>false
def qo2(g:List LReq):Option ig->List LQ->Bool
 |_,[]=>true
 |k,q::l=>(sw q.key&&after k q.key&&!q.reqs.isEmpty&&qo0 none q.reqs)&&(q.reqs.all λr=>inG g r.t)&&qo2 g (some q.key) l
def qlz(t:LT):Bool:=qo0 none t.glob&&qo2 t.glob none t.qs
def nc(k:ig)(r:LReq):List LQ->List LQ
 | []=>[⟨k,[r]⟩]
 |q::l=>if js q.key k=true then q::nc k r l else if q.key=k then⟨k,q.reqs++[r]⟩::l else⟨k,[r]⟩::q::l
def zc(k:ig):List LQ->List LReq
 | []=>[]
 |q::l=>if q.key=k then q.reqs else zc k l
theorem xqf{k:ig}:∀{l:List LQ},(∀q∈l,q.key≠k)->zc k l=[]
 | [],_=>rfl
 |q::l,h=>by rw[zc,if_neg (h q ac),xqf λq hq=>h q qgj]
theorem xab{k:ig}{r:List LReq}:∀{l:List LQ},kg (lu l)->(⟨k,r⟩:LQ)∈l->zc k l=r
 | [],_,h=>by cases h
 |q::l,ha,h=>by
  obtain⟨h1,h2⟩:=eh.1 ha;rw[zc];rcases c0.1 h with rfl|h
  .simp
  .have:js q.key k=true:=h1 k (cy.2 ⟨_,h,rfl⟩);rw[if_neg (qr2 this)];exact xab h2 h
theorem xez{k:ig}:∀{l:List LQ},zc k l≠[]->(⟨k,zc k l⟩:LQ)∈l
 | [],h=>(h rfl).elim
 |q::l,h=>by
  rw[zc]at h|-;by_cases e:q.key=k
  .rw[if_pos e];subst e;simp
  .rw[if_neg e]at h|-;exact List.mem_cons_of_mem _ (xez h)
theorem xlh{k:ig}{r:LReq}:∀{l:List LQ} {x:ig},x∈lu (nc k r l)->x=k\/x∈lu l
 | [],x,h=>by simpa[nc]using h
 |q::l,x,h=>by
  rw[nc]at h;split at h
  .simp only[dj,c0]at h|-;rcases h with h|h
   .grind
   .exact(xlh h).imp id .inr
  .grind
theorem qwy{k:ig}{r:LReq}:∀{l:List LQ},kg (lu l)->kg (lu (nc k r l))
 | [],_=>by simp[nc,kg]
 |q::l,h=>by
  obtain⟨h1,h2⟩:=eh.1 h;rw[nc];split
  .rename_i hk;refine eh.2 ⟨λx hx=>?_,qwy h2⟩;rcases xlh hx with rfl|hx
   .exact hk
   .grind
  .rename_i hk;split
   .grind
   .rename_i e;have il:js k q.key=true:=by
     rcases qjn (js k q.key)with g|g
     .exact g
     .exact(e (qvh hk af)).elim
    refine eh.2 ⟨λx hx=>?_,h⟩;simp only[dj,c0]at hx;rcases hx with rfl|hx
    .exact il
    .grind[qdc]
theorem qva{k:ig}{r:LReq}:∀{l:List LQ},kg (lu l)->∀q,q∈nc k r l↔(q.key≠k/\q∈l)\/q=⟨k,zc k l++[r]⟩
 | [],_,q=>by simp[nc,zc]
 |x::l,h,q=>by
  obtain⟨h1,h2⟩:=eh.1 h;rw[nc,zc];split
  .rename_i hk;rw[if_neg (qr2 hk),c0,qva h2 q,c0];constructor
   .rintro(rfl|⟨a,b⟩|e)
    .exact .inl ⟨qr2 hk,.inl rfl⟩
    .grind
    .grind
   .grind
  .rename_i hk;have hout:∀q∈l,x.key≠q.key:=λq hq=>qr2 (h1 _ (cy.2 ⟨q,hq,rfl⟩));split
   .grind
   .rename_i e;have il:js k x.key=true:=by
     rcases qjn (js k x.key)with g|g
     .exact g
     .exact(e (qvh hk af)).elim
    have kf:∀q∈x::l,q.key≠k:=λq hq e'=>by grind
    rw[xqf λq hq=>kf q qgj];simp only[ff];rw[c0];constructor
    .grind
    .grind
theorem jjb{k x:ig}{r:LReq}{l:List LQ}(h:kg (lu l)):zc x (nc k r l)=if x=k then zc k l++[r]else zc x l:=by
 by_cases e:x=k
 .subst e;rw[if_pos rfl];exact xab (qwy h) ((qva h _).2 (.inr rfl))
 .rw[if_neg e];by_cases hn:zc x l=[]
  .rw[hn];by_cases hn2:zc x (nc k r l)=[]
   .exact hn2
   .have hm:=(qva h _).1 (xez hn2);rcases hm with⟨_,hm⟩|hm
    .grind[xab]
    .grind
  .exact xab (qwy h) ((qva h _).2 (.inl ⟨e,xez hn⟩))
def qs5(r:ig->LReq)(ks:List ig)(l:List LQ):List LQ:=ks.foldl (λl k=>nc k (r k) l) l
theorem xla{r:ig->LReq}:∀(ks:List ig) (l:List LQ),ks.Nodup->kg (lu l)->kg (lu (qs5 r ks l))/\∀q,q∈qs5 r ks l↔(q.key∉ks/\q∈l)\/(q.key∈ks/\q.reqs=zc q.key l++[r q.key])
 | [],l,_,h=>⟨h,λq=>by simp[qs5]⟩
 |k::ks,l,hn,h=>by
  obtain⟨n1,n2⟩:=qiy.1 hn;obtain⟨i1,i2⟩:=xla (r:=r) ks (nc k (r k) l) n2 (qwy h);refine⟨i1,λq=>?_⟩;show q∈qs5 r ks (nc k (r k) l)↔_;rw[i2,qva h,jjb h];simp only[c0,not_or];constructor
  .grind
  .rintro(⟨⟨a,b⟩,c⟩|⟨a|a,b⟩)
   .grind
   .left;refine⟨by rw[a];exact n1,.inr ?_⟩;obtain⟨qk,qr⟩:=q;simp only at a b;subst a;rw[b]
   .grind
def y7(f:Foot)(k:ig):Bool:=l8 f.writes k||l8 f.reads k
def rq(fs:Nat->Foot)(k:ig)(R:List Nat):List LReq:=(R.filter λi=>y7 (fs i) k).map λ(i:Nat)=>⟨(i:Int),l8 (fs i).writes k⟩
structure TabOk(fs:Nat->Foot)(R:List Nat)(T:LT):Prop where
 glob:T.glob=R.map λ(i:Nat)=>⟨(i:Int),(fs i).all⟩
 asc:kg (lu T.qs)
 mem:∀q,q∈T.qs↔q.reqs=rq fs q.key R/\q.reqs≠[]
theorem jix(fs:Nat->Foot):TabOk fs [] ⟨[],[]⟩:=⟨rfl,by simp[kg],λq=>by simp[rq]⟩
theorem jfp(fs:Nat->Foot)(k:ig)(R:List Nat)(n:Nat):rq fs k (R++[n])=if y7 (fs n) k=true then rq fs k R++[⟨(n:Int),l8 (fs n).writes k⟩]else rq fs k R:=by grind[rq]
theorem jht{fs:Nat->Foot}{R:List Nat}{T:LT}(h:TabOk fs R T)(k:ig):zc k T.qs=rq fs k R:=by
 by_cases e:rq fs k R=[]
 .rw[e];by_cases hn:zc k T.qs=[]
  .exact hn
  .have:=((h.mem _).1 (xez hn)).1;exact this.trans e
 .exact xab h.asc ((h.mem ⟨k,rq fs k R⟩).2 ⟨rfl,e⟩)
theorem xx8{fs:Nat->Foot}{R:List Nat}{T:LT}{n:Nat}{ks:List ig}(h:TabOk fs R T)(hn:ks.Nodup)(hk:∀k,k∈ks↔y7 (fs n) k=true) :
  TabOk fs (R++[n]) ⟨T.glob++[⟨(n:Int),(fs n).all⟩],qs5 (λk=>⟨(n:Int),l8 (fs n).writes k⟩) ks T.qs⟩:=by
 obtain⟨a1,a2⟩:=xla (r:=λk=>⟨(n:Int),l8 (fs n).writes k⟩) ks T.qs hn h.asc;refine⟨by simp[h.glob],a1,λq=>?_⟩;simp only;rw[a2,jfp,jht h,h.mem,hk];by_cases e:y7 (fs n) q.key=true
 .simp_all
 .grind
def yy(t:Int)(l:List LReq):List LReq:=l.filter λr=>!decide (r.t=t)
def w8(t:Int):List LQ->List LQ
 | []=>[]
 |q::l=>if yy t q.reqs=[]then w8 t l else⟨q.key,yy t q.reqs⟩::w8 t l
def qrr(t:Int)(T:LT):LT:=⟨yy t T.glob,w8 t T.qs⟩
theorem xdc{t:Int}:∀(l:List LQ) (q:LQ),q∈w8 t l↔q.reqs≠[]/\∃x∈l,x.key=q.key/\yy t x.reqs=q.reqs
 | [],q=>by simp[w8]
 |x::l,q=>by
  rw[w8];split
  .simp_all[xdc]
  .rename_i e;rw[c0,xdc l q];constructor
   .grind
   .rintro⟨a,y,hy,b,c⟩;rcases c0.1 hy with rfl|hy
    .simp_all
    .grind
theorem je4{t:Int}:∀{l:List LQ} {k:ig},k∈lu (w8 t l)->k∈lu l:=λ{l k} h=>by
 obtain⟨q,hq,rfl⟩:=cy.1 h;obtain⟨_,x,hx,e,_⟩:=(xdc l q).1 hq;exact cy.2 ⟨x,hx,e⟩
theorem xjm{t:Int}:∀{l:List LQ},kg (lu l)->kg (lu (w8 t l))
 | [],_=>by simp[w8,kg]
 |q::l,h=>by
  obtain⟨h1,h2⟩:=eh.1 h;rw[w8];split
  .exact xjm h2
  .exact eh.2 ⟨λx hx=>h1 x (je4 hx),xjm h2⟩
theorem xhf(fs:Nat->Foot)(k:ig)(R:List Nat)(n:Nat):yy n (rq fs k R)=rq fs k (R.filter λi=>!decide (i=n)):=by
 unfold yy rq;rw[List.filter_map,qki,qki];congr 1;refine qju λi _=>?_;simp only[Function.comp];rw[Bool.and_comm];congr 1;by_cases e:i=n
 .simp[e]
 .grind
theorem xur{fs:Nat->Foot}{R:List Nat}{T:LT}(h:TabOk fs R T)(n:Nat):TabOk fs (R.filter λi=>!decide (i=n)) (qrr n T):=by
 refine⟨?_,xjm h.asc,λq=>?_⟩
 .unfold qrr yy;simp only;rw[h.glob,List.filter_map];congr 1;refine qju λi _=>?_;simp only[Function.comp];by_cases e:i=n
  .simp[e]
  .grind
 .unfold qrr;simp only;rw[xdc];constructor
  .rintro⟨a,x,hx,b,c⟩;have:=((h.mem x).1 hx).1;rw[this,xhf,b]at c;exact⟨c.symm,a⟩
  .rintro⟨a,b⟩;refine⟨b,⟨q.key,rq fs q.key R⟩,(h.mem _).2 ⟨rfl,λe=>b ?_⟩,rfl,?_⟩
   .have e:rq fs q.key R=[]:=e;rw[a,<-xhf,e];rfl
   .rw[a,xhf]
def yi(t:Int)(l:List LReq):List Int:=match l.find? λr=>decide (r.t=t)with
 |none=>[]
 |some r=>((l.takeWhile λx=>!decide (x.t=t)).filter λx=>x.w||r.w).map (·.t)
def ql9(T:LT)(t:Int):List Int:=yi t T.glob++T.qs.flatMap λq=>yi t q.reqs
theorem xjj(w:Nat->Bool)(i:Nat):∀(R:List Nat),R.Pairwise (· < ·)->yi i (R.map λ(j:Nat)=>⟨(j:Int),w j⟩)=if i∈R then(R.filter λj=>decide (j<i)&&(w j||w i)).map Int.ofNat else []
 | [],_=>rfl
 |x::R,h=>by
  obtain⟨h1,h2⟩:=eh.1 h;by_cases e:x=i
  .subst e;have:(R.filter λj=>decide (j<x)&&(w j||w x))=[]:=List.filter_eq_nil_iff.2 λj hj=>by grind
   simp[yi,this]
  .have e':¬(x:Int)=(i:Int):=aa;have ih:=xjj w i R h2;unfold yi at ih|-;simp only[dj,c0,Ne.symm e,false_or];rw[List.find?_cons_of_neg (by simp[e']),List.takeWhile_cons_of_pos (by simp[e'])];by_cases hm:i∈R
   .have il:=h1 i hm;rw[if_pos hm]at ih|-;have hf:(R.map λ(j:Nat)=>(⟨(j:Int),w j⟩:LReq)).find? (λr=>decide (r.t=(i:Int)))=some ⟨(i:Int),w i⟩:=af;rw[hf]at ih|-;simp only at ih|-;rw[List.filter_cons,List.filter_cons];simp only[il,decide_true,dh];split
    .grind
    .exact ih
   .grind
theorem xq2{fs:Nat->Foot}{R:List Nat}{T:LT}(h:TabOk fs R T)(hR:R.Pairwise (· < ·))(hf:∀i∈R,qa (fs i).all (fs i).reads (fs i).writes=true){i:Nat}(hi:i∈R) :
  ql9 T i=[]↔∀j∈R,j<i->qmm (fs j) (fs i)=false:=by
 have e1:yi i T.glob=[]↔∀j∈R,j<i->((fs j).all||(fs i).all)=false:=by
  rw[h.glob,xjj (λj=>(fs j).all) i R hR,if_pos hi,List.map_eq_nil_iff,List.filter_eq_nil_iff];refine forall₂_congr λj hj=>?_;simp
 have e2:∀q∈T.qs,(yi i q.reqs=[]↔(y7 (fs i) q.key=true->∀j∈R,j<i->y7 (fs j) q.key=true->(l8 (fs j).writes q.key||l8 (fs i).writes q.key)=false)):=λq hq=>by
  rw[((h.mem q).1 hq).1];unfold rq;rw[xjj (λj=>l8 (fs j).writes q.key) i _ (hR.filter _)];by_cases hh:y7 (fs i) q.key=true
  .grind[List.map_eq_nil_iff,List.filter_eq_nil_iff]
  .grind
 unfold ql9;rw[List.append_eq_nil_iff,e1,List.flatMap_eq_nil_iff];constructor
 .rintro⟨g1,g2⟩ j hj su;have h1:=g1 j hj su;simp only[Bool.or_eq_false_iff]at h1;rcases hx:qmm (fs j) (fs i)with _|_
  .rfl
  .exfalso;unfold qmm at hx;rw[if_neg af]at hx;have key:∀k,y7 (fs j) k=true->y7 (fs i) k=true->(l8 (fs j).writes k||l8 (fs i).writes k)=true->False:=λk a b c=>by
    have hq:(⟨k,rq fs k R⟩:LQ)∈T.qs:=(h.mem _).2 ⟨rfl,λe=>by
     have:i∈R.filter λi=>y7 (fs i) k:=e9.2 ⟨hi,b⟩;unfold rq at e;rw[List.map_eq_nil_iff]at e;rw[e]at this;cases this⟩
    have:=(e2 _ hq).1 (g2 _ hq) b j hj su a;rw[c]at this;cases this
   simp only[qmk,gu,gc]at hx;rcases hx with⟨k,a,b⟩|⟨k,a,b⟩|⟨k,a,b⟩
   .grind[y7,wm]
   .have a:=wm.2 a;exact key k (by simp[y7,a]) (by simp[y7,b]) (by simp[a])
   .grind[y7,wm]
 .intro g;have nall:∀j∈R,j<i->(fs j).all=false/\(fs i).all=false/\qmk (fs j).writes (fs i).writes=false/\qmk (fs j).writes (fs i).reads=false/\qmk (fs j).reads (fs i).writes=false:=λj hj su=>by
   have:=g j hj su;unfold qmm at this;split at this
   .cases this
   .grind
  refine⟨λj hj su=>by simp[(nall j hj su).1,(nall j hj su).2.1],λq hq=>(e2 q hq).2 λhik j hj su ya=>?_⟩;obtain⟨_,_,m1,m2,m3⟩:=nall j hj su;have no:∀{a b:List ig},qmk a b=false->l8 a q.key=true->l8 b q.key=true->False:=λ{a b} m x y=>by
   unfold qmk at m;rw[List.any_eq_false]at m;exact m _ (wm.1 x) y
  unfold y7 at hik ya;rcases qjn (l8 (fs j).writes q.key)with x|x
  .grind
  .grind
def qxz(fs:List Foot)(o:List Nat):List Nat:=(List.range fs.length).filter λi=>!o.contains i&&(List.range i).all λj=>o.contains j||!xep fs j i
def qsn(fs:List Foot)(choices:List Int):Nat->List Nat
 | 0=>[]
 |n+1=>qsn fs choices n++[(qxz fs (qsn fs choices n)).getD (qrh choices n (qxz fs (qsn fs choices n)).length) 0]
section
variable {fs:List Foot} {o:List Nat}
def jcs(n:Nat)(o:List Nat):List Nat:=(List.range n).filter λi=>!o.contains i
end
end Go.Cw
namespace Go.Cw
theorem xg0{α:Type}(q:α->Bool):∀(l:List α) (n:Nat),(ph q n l = -1/\l.find? q=none)\/∃(m:Nat) (hm:m<l.length),ph q n l=((n+m:Nat):Int)/\l.find? q=some l[m]
 | [],n=>.inl ⟨by rw[ph],rfl⟩
 |x::l,n=>by
  rw[ph];by_cases h:q x=true
  .right;exact⟨0,ac,bx,bx⟩
  .rw[if_neg h];rcases xg0 q l (n+1)with⟨h1,h2⟩|⟨m,hm,h1,h2⟩
   .grind
   .refine .inr ⟨m+1,az,?_,?_⟩
    .omega
    .grind
theorem qzz{α:Type}(q:α->Bool)(l:List α):(nv q l = -1/\l.find? q=none)\/∃(m:Nat) (hm:m<l.length),nv q l=(m:Int)/\l.find? q=some l[m]:=by grind[nv,xg0]
end Go.Cw
namespace Go.Cw
open Go Go.Abs
theorem xkc{α:Type}(q:α->Bool):∀(l:List α) (n m:Nat),ph q n l=((n+m:Nat):Int)->l.takeWhile (λx=>!q x)=l.take m
 | [],n,m,h=>by simp
 |x::l,n,m,h=>by
  rw[ph]at h;by_cases hx:q x=true
  .rw[if_pos hx]at h;have:m=0:=aa;subst this;simp[hx]
  .rw[if_neg hx]at h;cases m with
   |zero =>
    exfalso;rcases xg0 q l (n+1)with⟨h1,_⟩|⟨k,_,h1,_⟩
    .omega
    .omega
   |succ m =>
    rw[qi9,List.takeWhile_cons_of_pos af,xkc q l (n+1) m aa]
theorem xlc(t:Int)(l:List LReq):(nv (λx:LReq=>decide (x.t=t)) l = -1/\yi t l=[])\/∃(m:Nat) (hm:m<l.length),nv (λx:LReq=>decide (x.t=t)) l=(m:Int)/\yi t l=((l.take m).filter λx=>x.w||l[m].w).map (·.t):=by
 rcases qzz (λx:LReq=>decide (x.t=t)) l with⟨h1,h2⟩|⟨m,hm,h1,h2⟩
 .grind[yi]
 .refine .inr ⟨m,hm,h1,?_⟩;unfold yi;rw[h2];simp only;rw[xkc (λx:LReq=>decide (x.t=t)) l 0 m (by rw[cz];exact h1)]
theorem xm2(t:Int)(l:List LReq):(yi t l).length<=l.length:=by
 rcases xlc t l with⟨_,h⟩|⟨m,hm,_,h⟩
 .grind
 .grind
end Go.Cw
