/- Part 29 of a proof. -/
import Derived.Test.YtbimdamecieomaaGreatDoorR28
set_option linter.all false
namespace Go.Cw
open Go Go.Abs
section
theorem xpu(C:Cfg)(t:St)(m:RM):stR C t m =
  if t.op=8 then m.ab t.max
  else if (jj C t.a m).2.st≠0 then(jj C t.a m).2
  else if t.op=1∨t.op=2 then { (jj C t.a m).2 with vars:=py (jj C t.a m).2.vars ⟨t.name,(jj C t.a m).1⟩ }
  else if t.op=4 then qm7 C (jj C t.a m).2 (jj C t.a m).1.s V.nil
  else if t.op=7 then qqp (jj C t.a m).2 (jj C t.a m).1
  else if t.op=5 then(if (jj C t.a m).1.n=1 then om C t.body (jj C t.a m).2 else om C t.els (jj C t.a m).2)
  else if (jj C t.b (jj C t.a m).2).2.st≠0 then(jj C t.b (jj C t.a m).2).2
  else if t.op=3 then qm7 C (jj C t.b (jj C t.a m).2).2 (jj C t.a m).1.s (jj C t.b (jj C t.a m).2).1
  else if (jj C t.a m).1.n<(jj C t.b (jj C t.a m).2).1.n∧((t0 (jj C t.b (jj C t.a m).2).1.n (jj C t.a m).1.n).2≠0∨t.max<(t0 (jj C t.b (jj C t.a m).2).1.n (jj C t.a m).1.n).1)then(jj C t.b (jj C t.a m).2).2.ab 1005
  else xz (om C t.body) t.name (jj C t.b (jj C t.a m).2).1.n ((jj C t.b (jj C t.a m).2).1.n - (jj C t.a m).1.n).toNat (jj C t.a m).1.n (jj C t.b (jj C t.a m).2).2:=by
 cases t;rw[stR];rfl
theorem xls(C:Cfg){t:St}(h:t.op=6)(m:MS):oj C t m =
  match kx C t.a m with
  |(.error z,m')=>(.error z,m')
  |(.ok u,m')=>match kx C t.b m' with
   |(.error z,kh)=>(.error z,kh)
   |(.ok v,kh) =>
    if u.k=1∧v.k=1 then
     (if qtd u.n v.n t.max then(.error (ab 1005),kh)else o8 (kn C t.body) t.name v.n 16386 u.n kh)
    else(.error (ab 1009),kh):=by
 cases t with
 |mk op name mx a b body els =>
  simp only[St.op]at h;subst h;rw[oj];simp;rfl
theorem Pre.mono{G:nf}{r p r' p':Nat}{s:MS}{m:RM}(h:Pre G r p s m)(h1:r'≤r)(h2:p'≤p):Pre G r' p' s m:=⟨h.inv.mono h1 h2,h.vm,h.ty,h.sim⟩
theorem xaj{t:St}{d:Nat}(h:tv t d):t.op=1∨t.op=2∨t.op=3∨t.op=4∨t.op=5∨t.op=6∨t.op=7∨t.op=8:=by
 have h1:=((xc t d).1 h).1;unfold sg at h1;by_cases hu:(mu t.op).2=false
 ·rw[if_pos (.inl hu)]at h1;cases h1
 ·unfold mu at hu;split at hu
  ·omega
  split at hu
  ·omega
  split at hu
  ·omega
  split at hu
  ·omega
  split at hu
  ·omega
  split at hu
  ·omega
  ·simp at hu
section
variable {C:Cfg} (hV:vC C) (hC:ur C) {G:nf}
include hV hC
theorem xt5{x:Except Stop Unit×MS}{s:MS}{m m':RM}{k:g9}{v:V}{r:Nat}(hx:x=qz C k v s)(h:Pre G r 1 s m)(hw:zi v)(hr:kp v)(hm:m'=qm7 C m k v):qvd G x m':=by
 subst hx hm;have hS:=xym (C:=C) h.sim k v;rcases hy:qz C k v s with⟨z|u,s'⟩
 ·rw[hy]at hS;exact hS
 ·rw[hy]at hS;have hS:Sim s' _:=hS;have hv:s'.vars=s.vars:=by
   unfold qz at hy;split at hy
   ·cases hy
   split at hy
   ·cases hy
   ·cases hy;rfl
  exact⟨(h.inv.store hr hy).mono (di _) (ct _),xju hV hC h.vm hw hy,fun k w ty hw hg=>h.ty k w ty (by rw[←hv];exact hw) hg,hS⟩
theorem jcd{s:MS}{m:RM}{v:V}{r p:Nat}(h:Pre G r p s m):qvd G (uj v s) (qqp m v):=by
 have hS:=jjy h.sim h.inv.ot v;rcases hy:uj v s with⟨z|u,s'⟩
 ·rw[hy]at hS;exact hS
 ·rw[hy]at hS;have hS:Sim s' _:=hS;have hv:s'.vars=s.vars:=by
   unfold uj at hy;split at hy
   ·cases hy
   ·cases hy;rfl
  exact⟨(h.inv.emit hy).mono (di _) (di _),xp9 hV hC h.vm hy,fun k w ty hw hg=>h.ty k w ty (by rw[←hv];exact hw) hg,hS⟩
theorem jn6{t:St}{d:Nat}{ts:TS}{s:MS}{m:RM}(jm:tv t d)(hg:t8 t)(hT:TOk ts)(hf:fresh (nmS t) ts)(h0:(um t ts).1=0)(r7:subV (um t ts).2.all G)(h:Pre G 8192 1 s m)
  (hB:∀ts s m,TOk ts→fresh (ou t.body) ts→(km t.body ts).1=0→subV (km t.body ts).2.all G→Pre G 0 0 s m→qvd G (kn C t.body s) (om C t.body m))
  (hE:∀ts s m,TOk ts→fresh (ou t.els) ts→(km t.els ts).1=0→subV (km t.els ts).2.all G→Pre G 0 0 s m→qvd G (kn C t.els s) (om C t.els m)):qvd G (oj C t s) (stR C t m):=by
 have hgo:=(qsn t).1 hg;have hTG:=xct t ts hT hf h0;have hvis:subV ts.visible G:=hT.sub.trans (hTG.mono.trans r7);rw[qw3]at hf;rw[qyd]at h0 r7 hTG;unfold qsx at h0 r7;have jy:=xaj jm;by_cases he:(ki ts.visible t).2.2≠0
 ·rw[if_pos he]at h0;exact(he h0).elim
 rw[if_neg he]at h0 r7;have he:(ki ts.visible t).2.2=0:=qiu;rw[xpu];by_cases h8:t.op=8
 ·rw[if_pos h8,qu4];rw[if_neg aa,if_neg aa,if_neg aa,if_neg aa,if_neg aa,if_neg aa,if_pos h8];exact h.sim.ab _
 rw[if_neg h8];have hea:=xqs hV hC (G:=G) (vis:=ts.visible) (r:=4097) (p:=1) (hgo.1 h8) (qw6 jm h8) h
 -- the type of the first operand
 have hta:(ofE ts.visible t.a).2=0:=by
  unfold ki at he;rw[if_neg h8]at he;by_cases h1:(ofE ts.visible t.a).2=0
  ·exact h1
  ·rw[if_neg (fun g=>h1 g.1)]at he;exact he
 have hea1:ofE ts.visible t.a=((ofE ts.visible t.a).1,0):=by rw[←hta]
 have ly:(ki ts.visible t).1=(ofE ts.visible t.a).1:=by
  unfold ki;rw[if_neg h8];split<;>rfl
 rcases hx:kx C t.a s with⟨z|u,s1⟩
 ·have hD:=hea.1 z s1 hx;rw[if_pos (by rw[hD.st];exact hD.ne)];have:oj C t s=(.error z,s1):=by
   by_cases h6:t.op=6
   ·rw[xls C h6,hx]
   ·rw[qu4,hx,if_neg h6,if_neg h8];split<;>try rfl
    split<;>try rfl
    split<;>try rfl
    split<;>try rfl
    split<;>try rfl
    omega
  rw[this];exact hD
 obtain⟨eu,hP,oku,rngu,htu⟩:=hea.2 u s1 hx;have hku:=htu _ hvis hea1;rw[if_neg (by rw[hP.sim.st];simp),eu];by_cases h1:t.op=1∨t.op=2
 ·rw[if_pos h1];have mj:oj C t s=(.ok (),{ s1 with vars:=js s1.vars t.name u }):=by
   rw[qu4,if_pos h1,hx]
  rw[mj];have hG:∀ty,jg G t.name=some ty→u.k=ty:=fun ty hg=>by
   rcases h1 with h1|h1
   ·rw[if_pos h1]at r7;have:=r7 t.name (ki ts.visible t).1 (by simp only[TS.decl];rw[qcz,if_pos rfl]);rw[this]at hg;cases hg;rw[hku.1,ly]
   ·rw[if_neg aa,if_pos h1]at h0;rcases hv:jg ts.visible t.name with _|ty'
    ·rw[hv]at h0;cases h0
    ·rw[hv]at h0;simp only at h0;have:=hvis _ _ hv;rw[this]at hg;cases hg;by_cases hl:jg ts.loops t.name=some true
     ·rw[if_pos hl]at h0;cases h0
     ·rw[if_neg hl]at h0;by_cases hy:ty≠(ki ts.visible t).1
      ·rw[if_pos hy]at h0;cases h0
      ·rw[hku.1,←ly];simpa using Eq.symm (by simpa using hy)
  exact⟨(hP.inv.vars rngu t.name).mono (di _) (di _),xmw hV hC t.name hP.vm oku,xq2 hP.ty hG,hP.sim.set t.name u⟩
 rw[if_neg h1];have hn1:¬t.op=1:=fun e=>h1 (.inl e);have pq:¬t.op=2:=fun e=>h1 (.inr e);rw[if_neg hn1,if_neg pq]at h0 r7;by_cases h4:t.op=4
 ·rw[if_pos h4];rw[if_neg aa,if_pos h4]at h0;have q9:u.k=2:=by
   rw[hku.1,←ly];by_cases hy:(ki ts.visible t).1≠2
   ·rw[if_pos hy]at h0;cases h0
   ·simpa using hy
  refine xt5 hV hC (k:=u.s) (v:=V.nil) ?_ hP xfl xcp rfl;rw[qu4,if_neg h1,if_neg aa,if_pos h4,hx];simp only[q9,if_true]
 rw[if_neg h4];by_cases h7:t.op=7
 ·rw[if_pos h7];rw[if_neg aa,if_neg h4,if_pos h7]at h0;have hk3:u.k=1∨u.k=2:=by
   have:u.k≠3:=by
    rw[hku.1,←ly];by_cases hy:(ki ts.visible t).1=3
    ·rw[if_pos hy]at h0;cases h0
    ·exact hy
   rw[hku.1]at this⊢;have:=hku.2;omega
  have mj:oj C t s=uj u s1:=by
   rw[qu4,if_neg h1,if_neg aa,if_neg h4,if_neg aa,if_neg aa,if_pos h7,hx];simp only[hk3,if_true]
  rw[mj];exact jcd hV hC hP
 rw[if_neg h7];by_cases h5:t.op=5
 ·rw[if_pos h5];rw[if_neg aa,if_neg h4,if_neg h7,if_pos h5]at h0 r7;rw[if_neg aa,ej]at hf;by_cases h6:(ki ts.visible t).1≠3
  ·rw[if_pos h6]at h0;simp at h0
  rw[if_neg h6]at h0 r7;have hk3:u.k=3:=by rw[hku.1,←ly];simpa using h6
  by_cases h9:(m8 t.body (km t.body) ts).1≠0
  ·rw[if_pos h9]at h0;exact(h9 h0).elim
  rw[if_neg h9]at h0 r7;have jw:(km t.body ts).1=0:=by
   unfold m8 at h9;by_cases hb:(km t.body ts).1≠0
   ·rw[if_pos hb]at h9;exact(h9 hb).elim
   ·simpa using hb
  have g1:=TGo.blk (l:=t.body) (fun g=>qn4 t.body ts hT hf.left g) (by simpa using h9);have li:(km t.els (m8 t.body (km t.body) ts).2).1=0:=by
   obtain⟨X,hX⟩:∃X,X=(m8 t.body (km t.body) ts).2:=⟨_,rfl⟩
   rw[←hX]at h0⊢;unfold m8 at h0;by_cases hb:(km t.els X).1≠0
   ·rw[if_pos hb]at h0;exact(hb h0).elim
   ·simpa using hb
  have g2:=TGo.blk (l:=t.els) (fun g=>qn4 t.els _ g1.ok (hf.right g1) g) h0;have s1':subV (km t.body ts).2.all G:=by
   have:(m8 t.body (km t.body) ts).2.all=(km t.body ts).2.all:=by unfold m8;rw[if_neg (by simp[jw])]
   rw[←this];exact g2.mono.trans r7
  have s2':subV (km t.els (m8 t.body (km t.body) ts).2).2.all G:=by
   have:(m8 t.els (km t.els) (m8 t.body (km t.body) ts).2).2.all=(km t.els (m8 t.body (km t.body) ts).2).2.all:=by
    obtain⟨X,hX⟩:∃X,X=(m8 t.body (km t.body) ts).2:=⟨_,rfl⟩
    rw[←hX]at li⊢;unfold m8;rw[if_neg (by simp[li])]
   rw[←this];exact r7
  have mj:oj C t s=if u.n=1 then kn C t.body s1 else kn C t.els s1:=by
   rw[qu4,if_neg h1,if_neg aa,if_neg h4,if_pos h5,hx];simp only[hk3,if_true]
  rw[mj];split
  ·exact hB ts s1 _ hT hf.left jw s1' (hP.mono (di _) (di _))
  ·exact hE _ s1 _ g1.ok (hf.right g1) li s2' (hP.mono (di _) (di _))
 rw[if_neg h5];have h36:t.op=3∨t.op=6:=aa;have heb:=xqs hV hC (G:=G) (vis:=ts.visible) (r:=2) (p:=1) (hgo.2.1 h36) (qyb jm h36) hP;have htb:(ofE ts.visible t.b).2=0:=by
  unfold ki at he;rw[if_neg h8,if_pos ⟨hta,h36⟩]at he;exact he
 have heb1:ofE ts.visible t.b=((ofE ts.visible t.b).1,0):=by rw[←htb]
 have ho2:(ki ts.visible t).2.1=(ofE ts.visible t.b).1:=by
  unfold ki;rw[if_neg h8,if_pos ⟨hta,h36⟩]
 rcases hy:kx C t.b s1 with⟨z|v,s2⟩
 ·have hD:=heb.1 z s2 hy;rw[if_pos (by rw[hD.st];exact hD.ne)];have:oj C t s=(.error z,s2):=by
   rcases h36 with h3|h6
   ·rw[qu4,if_neg h1,if_pos h3,hx];simp only[hy]
   ·rw[xls C h6,hx];simp only[hy]
  rw[this];exact hD
 obtain⟨ev,hQ,okv,rngv,htv⟩:=heb.2 v s2 hy;have hkv:=htv _ hvis heb1;rw[if_neg (by rw[hQ.sim.st];simp),ev];by_cases h3:t.op=3
 ·rw[if_pos h3];rw[if_pos h3]at h0;have hk:u.k=2∧(v.k=1∨v.k=2):=by
   by_cases hz:(ki ts.visible t).1≠2∨(ki ts.visible t).2.1=3
   ·rw[if_pos hz]at h0;cases h0
   ·rw[hku.1,←ly,hkv.1];have:=hkv.2;rw[ho2]at hz;omega
  refine xt5 hV hC (k:=u.s) (v:=v) ?_ hQ (xqd okv hk.2) rngv rfl;rw[qu4,if_neg h1,if_pos h3,hx];simp only[hy];rw[if_pos hk]
 have h6:t.op=6:=aa;rw[if_neg h3,if_neg h4,if_neg h7,if_neg h5,if_pos h6]at h0 r7;rw[if_neg h3];rw[if_pos (.inr h6)]at hf;by_cases hz:(ki ts.visible t).1≠1∨(ki ts.visible t).2.1≠1
 ·rw[if_pos hz]at h0;simp at h0
 rw[if_neg hz]at h0 r7;have hk1:u.k=1∧v.k=1:=by rw[hku.1,←ly,hkv.1,←ho2];omega
 have hmx:=xa7 jm h6;have g0:=TGo.set hT (hf.2 t.name ae) 1 (js ts.loops t.name true);have hfb:=(hf.right g0).left;have jw:(km t.body ⟨js ts.visible t.name 1,js ts.loops t.name true,js ts.all t.name 1⟩).1=0:=by
  simp only at h0;unfold m8 at h0;by_cases hb:(km t.body ⟨js ts.visible t.name 1,js ts.loops t.name true,js ts.all t.name 1⟩).1≠0
  ·rw[if_pos hb]at h0;exact(hb h0).elim
  ·simpa using hb
 have s1':subV (km t.body ⟨js ts.visible t.name 1,js ts.loops t.name true,js ts.all t.name 1⟩).2.all G:=by
  simp only at r7;unfold m8 at r7;rw[if_neg (by simp[jw])]at r7;exact r7
 have g1:=qn4 t.body _ g0.ok hfb jw;have mj:oj C t s=if qtd u.n v.n t.max then(.error (ab 1005),s2)else o8 (kn C t.body) t.name v.n 16386 u.n s2:=by
  rw[xls C h6,hx];simp only[hy];rw[if_pos hk1]
 rw[mj];have hmi:=jjw (mx:=t.max) rngu.1 rngv.1 hmx.1 hmx.2;by_cases hm:qtd u.n v.n t.max
 ·rw[if_pos hm,if_pos (hmi.1 hm)];exact hQ.sim.ab _
 ·rw[if_neg hm,if_neg (fun g=>hm (hmi.2 g))];have hfw:=few rngu.1 rngv.1 hmx.1 hmx.2 hm;have hfw2:v.n - u.n≤16:=by have:=hmx.2;have:=hmx.1;omega
  refine xt7 (G:=G) (body:=kn C t.body) (bodyR:=om C t.body) rngv.1 (fun ty hg=>?_) (fun s m hp=>?_) 16386 _ u.n s2 _ rngu.1 aa aa (hQ.mono (di _) (di _))
  ·have:=(g1.mono.trans s1') t.name 1 (by simp only;rw[qcz,if_pos rfl]);rw[this]at hg;cases hg;rfl
  ·exact hB _ s m g0.ok hfb jw s1' (hp.mono (di _) (di _))
mutual
theorem jjq:∀(t:St) (d:Nat) (ts:TS) (s:MS) (m:RM),tv t d→t8 t→TOk ts→fresh (nmS t) ts→(um t ts).1=0→subV (um t ts).2.all G→Pre G 8192 1 s m→qvd G (oj C t s) (stR C t m)
 | .mk op name mx a b body els,d,ts,s,m,jm,hg,hT,hf,h0,r7,h=>by
  have qw:=(xc _ _).1 jm;have jf:=(qsn _).1 hg;exact jn6 hV hC jm hg hT hf h0 r7 h
   (fun ts s m h1 h2 h3 h4 h5=>xdp body (d+1) ts s m qw.2.1 jf.2.2.1 h1 h2 h3 h4 h5)
   (fun ts s m h1 h2 h3 h4 h5=>xdp els (d+1) ts s m qw.2.2 jf.2.2.2 h1 h2 h3 h4 h5)
theorem xdp:∀(l:List St) (d:Nat) (ts:TS) (s:MS) (m:RM),x6 l d→(∀x∈l,t8 x)→TOk ts→fresh (ou l) ts→(km l ts).1=0→subV (km l ts).2.all G→Pre G 0 0 s m→qvd G (kn C l s) (om C l m)
 | [],d,ts,s,m,_,_,_,_,_,_,h=>by rw[kn,om];exact h
 |t::l,d,ts,s,m,jm,hg,hT,hf,h0,r7,h=>by
  obtain⟨t1,t2⟩:=xou h;rw[km]at h0 r7;rw[ou]at hf;have he:(um t ts).1=0:=by
   by_cases he:(um t ts).1≠0
   ·rw[if_pos he]at h0;exact(he h0).elim
   ·simpa using he
  rw[if_neg (by simp[he])]at h0 r7;have g1:=xct t ts hT hf.left he;have g2:=qn4 l _ g1.ok (hf.right g1) h0;rw[kn,om,if_neg (by rw[h.sim.st];simp)];rcases hx:qq s with⟨z|u,s1⟩
  ·obtain⟨e1,e2⟩:=t1 _ _ hx;simp only;rw[if_neg e1,xa6 C l e1];exact e2
  ·obtain⟨e1,e2⟩:=t2 _ _ hx;simp only;rw[if_pos e1];have hS:=jjq t d ts s1 (qu m) (jm t ae) (hg t ae) hT hf.left he (g2.mono.trans r7) e2;rcases hy:oj C t s1 with⟨z|u',s2⟩
   ·rw[hy]at hS;have hS:Dead z s2 _:=hS;simp only;rw[xa6 C l qkg];exact hS
   ·rw[hy]at hS;have hS:Pre G 0 0 s2 _:=hS;exact xdp l d _ s2 _ (fun x hx=>jm x bt) (fun x hx=>hg x bt) g1.ok (hf.right g1) h0 r7 hS
end
end
section
variable {σ τ:Type} (fS:σ→St→Nat→σ) (fR:σ→Ex→σ) (gS:τ→St→Nat→τ) (gR:τ→Ex→τ)
theorem xp1(e:Ex)(x:Nat×σ)(y:Nat×τ)(h:x.1=y.1):(pj fR e x).1=(pj gR e y).1:=by
 unfold pj;rw[h];split
 ·exact h
 ·rfl
mutual
theorem jie:∀(s:St) (d:Nat) (x:Nat×σ) (y:Nat×τ),x.1=y.1→(uf fS fR s d x).1=(uf gS gR s d y).1
 | .mk _ _ _ a b body els,d,x,y,h=>by
  rw[uf,uf];exact xfa els _ _ _ (xfa body _ _ _ (xp1 fR gR b _ _ (xp1 fR gR a _ _ h)))
theorem xfa:∀(l:List St) (d:Nat) (x:Nat×σ) (y:Nat×τ),x.1=y.1→(mh fS fR l d x).1=(mh gS gR l d y).1
 | [],d,x,y,h=>by rw[mh,mh];exact h
 |s::l,d,x,y,h=>by
  rw[mh,mh,h];split
  ·exact h
  ·exact xfa l d _ _ (jie s d _ _ rfl)
end
end
mutual
theorem jf5:∀(s:St) (d:Nat) (x:Nat×List g9),(uf tu md s d x).1≠0→(uf tu md s d x).2=x.2++(ou s.body++ou s.els)
 | .mk _ _ _ a b body els,d,x,h=>by
  rw[uf]at h⊢;have hl:=qt2 tu md els (d+1) (mh tu md body (d+1) (pj md b (pj md a x)));rw[xf9 els (d+1) _ h,xf9 body (d+1) _ aa,xfg,xfg];simp[St.body,St.els]
theorem xf9:∀(l:List St) (d:Nat) (x:Nat×List g9),(mh tu md l d x).1≠0→(mh tu md l d x).2=x.2++ou l
 | [],d,x,h=>by rw[mh,ou];simp
 |s::l,d,x,h=>by
  rw[mh]at h⊢;split
  ·rename_i hz;rw[if_pos hz]at h;exact(h hz).elim
  ·rename_i hz;rw[if_neg hz]at h;have hl:=qt2 tu md l d (uf tu md s d (x.1 - 1,tu x.2 s d));rw[xf9 l d _ h,jf5 s d _ aa,ou,qw3];unfold tu;split<;>simp
end
theorem jf4{p:Proc}(h:s7 p=0):(mh uw md p.body 1 (401,(0:Int))).1≠0:=by
 unfold s7 at h;split at h
 ·contradiction
 split at h
 ·contradiction
 simp only at h;split at h
 ·contradiction
 ·rename_i h1;exact fun h2=>h1 ⟨h,h2⟩
theorem xfu{p:Proc}(h:s7 p=0):yp p=p.params.map (·.name)++ou p.body:=by
 unfold yp;have hc:=xfa tu md uw md p.body 1 (401,p.params.map (·.name)) (401,(0:Int)) rfl
 exact xf9 p.body 1 _ (by rw[hc];exact jf4 h)
theorem xi9:∀(l:List g9) (met:List (g9×Bool)),(∀q∈met,q.2=true)→(qrr met l=false↔l.Nodup∧∀x∈l,x∉ng met)
 | [],met,_=>by simp[qrr]
 |x::l,met,hm=>by
  have hs:∀q∈js met x true,q.2=true:=fun q hq=>by
   rcases qxl hq with rfl|hq
   ·rfl
   ·exact hm q hq
  rw[qrr,ql6,xi9 l _ hs,gg];have hx:(jg met x).getD false=false↔x∉ng met:=by
   rw[←qdp];rcases hg:jg met x with _|v
   ·simp
   ·have:=hm _ (qv7 hg);simp only at this;simp[this]
  rw[hx];simp only[qde,cw,forall_eq_or_imp,not_or];constructor
  ·rintro⟨h1,h2,h3⟩;exact⟨⟨fun hm=>(h3 x hm).1 rfl,h2⟩,h1,fun y hy=>(h3 y hy).2⟩
  ·rintro⟨⟨h1,h2⟩,h3,h4⟩;exact⟨h3,h2,fun y hy=>⟨fun e=>h1 (e▸hy),h4 y hy⟩⟩
def qdd:List Param→List V→List Pr→List Pr
 |x::l,v::r,m=>qdd l r (py m ⟨x.name,v⟩)
 |_,_,m=>m
abbrev rm0(p:Proc)(args:List V):RM:=⟨qdd p.params args [],[],0,0,[],[],[],em,0⟩
def qza(m:RM):Eff:=if m.st≠0 then⟨m.st,m.code,[],m.reads,m.puts,[],m.miss,m.steps⟩else⟨1,m.code,m.out,m.reads,m.puts,m.own,m.miss,m.steps⟩
def qxm(fmt:Int→g9)(p:Proc)(args:List V)(st:List Pr)(ft:Foot):Eff :=
 if t6 p≠0∨zg p args≠0∨nn st=false∨my ft.all ft.reads ft.writes=false then u4
 else qza (om (qm fmt st ft) p.body (rm0 p args))
theorem xpn:∀(ps:List Param) (vs:List V) (a:List (g9×V)) (b:List Pr),(∀k,jg a k=if p8 b k=true then some (lh b k)else none)→∀k,jg (qeg ps vs a) k=if p8 (qdd ps vs b) k=true then some (lh (qdd ps vs b) k)else none
 | [],vs,a,b,h=>by cases vs<;>exact h
 |x::l,[],a,b,h=>h
 |x::l,v::r,a,b,h=>by
  rw[qeg,qdd];refine xpn l r _ _ fun k=>?_;rw[qcz,(xc0 _ _ _).1,(xc0 _ _ _).2];by_cases hx:x.name=k
  ·simp[hx]
  ·simp[hx,h k]
theorem xww:∀(ps:List Param) (vs:List V) (a:List (g9×V)) (ts:TS),qm8 ps vs=true→vs.length=ps.length→(∀k v ty,jg a k=some v→jg ts.visible k=some ty→v.k=ty)→(∀k v,jg a k=some v→∃ty,jg ts.visible k=some ty) →
  (∀k v ty,jg (qeg ps vs a) k=some v→jg (y5 ps ts).visible k=some ty→v.k=ty)∧∀k v,jg (qeg ps vs a) k=some v→∃ty,jg (y5 ps ts).visible k=some ty
 | [],vs,a,ts,_,_,h,h'=>by
  cases vs<;>exact⟨h,h'⟩
 |x::l,[],a,ts,_,hl,h,h'=>by cases hl
 |x::l,v::r,a,ts,ho,hl,h,h'=>by
  simp only[qm8,c0]at ho;rw[qeg];have hd:y5 (x::l) ts=y5 l (ts.decl x.name x.ty):=rfl;rw[hd];have hk:v.k=x.ty:=by
   have:=ho.1;unfold qws at this;simp only[fv,c0,decide_eq_true_eq]at this;omega
  refine xww l r _ _ ho.2 cj (fun k w ty hw hg=>?_) fun k w hw=>?_
  ·simp only[TS.decl]at hg;rw[qcz]at hw hg;split at hw
   ·rename_i e;rw[if_pos e]at hg;cases hw;cases hg;exact hk
   ·rename_i e;rw[if_neg e]at hg;exact h k w ty hw hg
  ·simp only[TS.decl];rw[qcz]at hw⊢;split at hw
   ·rename_i e;rw[if_pos e];exact⟨_,rfl⟩
   ·rename_i e;rw[if_neg e];exact h' k w hw
theorem xl6:∀(ps:List Param) (ts:TS),TOk ts→fresh (ps.map (·.name)) ts→TGo (ps.map (·.name)) ts (y5 ps ts)
 | [],ts,h,_=>.refl h _
 |x::l,ts,h,hf=>by
  have hd:y5 (x::l) ts=y5 l (ts.decl x.name x.ty):=rfl;rw[hd];have hf':fresh ([x.name]++l.map (·.name)) ts:=hf
  have g:=TGo.set h (hf'.2 x.name ae) x.ty ts.loops;exact g.trans (xl6 l _ g.ok (hf'.right g))
theorem xxo{fmt:Int→g9}{p:Proc}{args:List V}{st:List Pr}{ft:Foot}(hI:RunIn fmt p args st):qxm fmt p args st ft=mz fmt p args st ft:=by
 by_cases h:vw p args st ft
 ·have hr:=(qci _ _ _ _).1 h;rw[qeo h];unfold qxm;rw[if_neg h];have hc:=hr.1;have hvp:=xl4 hc;have hty:zh p=0:=by
   have:=jag hc;unfold qn1 at this;split at this
   ·contradiction
   ·rename_i ht;simpa using ht
  unfold zh at hty;rw[if_neg (by simp[hvp])]at hty;split at hty
  ·contradiction
  split at hty
  ·contradiction
  rename_i hdup;have hdup:qrr [] (yp p)=false:=by simpa using hdup
  rw[xfu hvp]at hdup;have hnd:=((xi9 _ [] ae).1 hdup).1;have hF:fresh (p.params.map (·.name)++ou p.body) ⟨[],[],[]⟩:=⟨hnd,by simp[ng]⟩
  have hT0:TOk ⟨[],[],[]⟩:=⟨by simp[ng],.refl _⟩
  have gP:=xl6 p.params ⟨[],[],[]⟩ hT0 hF.left;have hfB:=hF.right gP;have jw:(km p.body (y5 p.params ⟨[],[],[]⟩)).1=0:=by
   unfold qpq m8 at hty;by_cases hb:(km p.body (y5 p.params ⟨[],[],[]⟩)).1≠0
   ·rw[if_pos hb]at hty;exact(hb hty).elim
   ·simpa using hb
  have gB:=qn4 p.body _ gP.ok hfB jw;have hao:=(xev hr.2.1)
  have haok:qm8 p.params args=true:=by
   have:=hr.2.1;unfold zg at this;split at this
   ·contradiction
   ·split at this
    ·assumption
    ·contradiction
  have hta:=xww p.params args [] ⟨[],[],[]⟩ haok hao.1 (by simp[jg]) (by simp[jg]);obtain⟨G,hG⟩:∃G,G=(km p.body (y5 p.params ⟨[],[],[]⟩)).2.all:=⟨_,rfl⟩
  have r7:subV (y5 p.params ⟨[],[],[]⟩).visible G:=by rw[hG];exact gP.ok.sub.trans gB.mono
  have hpre:Pre G 0 0 (zq p args) (rm0 p args):=by
   refine⟨qz3 hI,vM0 hr.2.1,fun k v ty hv hg=>?_,⟨fun k=>?_,by simp[jk,mv,jg],rfl,rfl,rfl,rfl,rfl,rfl,rfl,rfl⟩⟩
   ·obtain⟨ty',ht'⟩:=hta.2 k v hv;have:=r7 _ _ ht';rw[this]at hg;cases hg;exact hta.1 k v _ hv ht'
   ·exact xpn p.params args [] [] (by simp[jg,p8,mv]) k
  have hP:=xdp (C:=qm fmt st ft) (G:=G) (xu6 hI hr.2.2.1) (fun q hq=>hI.st q hq) p.body 1 _ _ _ (qxc hc) (qw7 hc hI.body) gP.ok hfB jw (by rw[hG];exact .refl _) hpre;have qui:=xbt (fmt:=fmt) (p:=p) (args:=args) (st:=st) (ft:=ft) p.body;rcases hx:kn (qm fmt st ft) p.body (zq p args)with⟨z|u,s⟩
  ·rw[hx]at hP;have hP:Dead z s _:=hP;unfold qza;rw[if_pos (by rw[hP.st];exact hP.ne),hP.st,hP.code,hP.reads,hP.puts,hP.miss,hP.steps];rfl
  ·rw[hx]at hP qui;have hP:Pre G 0 0 s _:=hP;have hS:=hP.sim;unfold qza;rw[if_neg (by rw[hS.st];simp),hS.code,hS.out,hS.reads,hS.puts,hS.miss,hS.steps];have qxx:jp s.puts:=qui.ap ae;have:(om (qm fmt st ft) p.body (rm0 p args)).own=s.puts.map fun k=>(⟨k,(jg s.own k).getD V.nil⟩:Pr):=by
    rw[←hS.keys];unfold nu;rw[qlt];refine(List.map_id _).symm.trans (qmd fun q hq=>?_);have hk:q.key∈s.puts:=by rw[←hS.keys];exact dk.2 ⟨q,hq,rfl⟩
    simp only[Function.comp,id];rw[hS.own,if_pos (ux.2 hk),f9,qv6 (by rw[hS.keys];exact qxx) hq]
   simp only[qnf,this]
 ·rw[qeu h];unfold qxm;rw[if_pos (Decidable.not_not.1 h)]
end
abbrev Ex.z:Ex:=.mk 0 0 em []
abbrev St.z:St:=.mk 0 em 0 Ex.z Ex.z [] []
structure Vt where
 isS:Bool
 t:St
 d:Nat
 e:Ex
 root:Bool
def Vt.c(v:Vt):List AV:=[Bo v.isS,I v.t.op,S v.t.name,I v.t.max,I v.t.a.op,I v.t.a.n,S v.t.a.s,.slice (v.t.a.args.map Ex.c),I v.t.b.op,I v.t.b.n,S v.t.b.s,.slice (v.t.b.args.map Ex.c),.slice (v.t.body.map St.c),.slice (v.t.els.map St.c),I v.d,I v.e.op,I v.e.n,S v.e.s,.slice (v.e.args.map Ex.c),Bo v.root]
def Vt.ofS(t:St)(d:Nat):Vt:=⟨true,t,d,Ex.z,false⟩
def Vt.ofE(e:Ex)(r:Bool):Vt:=⟨false,St.z,0,e,r⟩
mutual
def uz:Ex→Bool→List Vt→List Vt
 | .mk op n s args,r,out=>if 400<out.length then out else y3 args (out++[Vt.ofE (.mk op n s args) r])
def y3:List Ex→List Vt→List Vt
 | [],out=>out
 |e::l,out=>if out.length≤400 then y3 l (uz e false out)else out
end
theorem xdu(e:Ex)(r:Bool)(out:List Vt):uz e r out=if 400<out.length then out else y3 e.args (out++[Vt.ofE e r]):=by
 cases e;rw[uz];rfl
def tc(e:Ex)(out:List Vt):List Vt:=if zp e=true then out else uz e true out
mutual
def wkS:St→Nat→List Vt→List Vt
 | .mk _ _ _ a b body els,d,out=>p6 els (d+1) (p6 body (d+1) (tc b (tc a out)))
def p6:List St→Nat→List Vt→List Vt
 | [],_,out=>out
 |t::l,d,out=>if out.length≤400 then p6 l d (wkS t d (out++[Vt.ofS t d]))else out
end
theorem jky(t:St)(d:Nat)(out:List Vt):wkS t d out=p6 t.els (d+1) (p6 t.body (d+1) (tc t.b (tc t.a out))):=by
 cases t;rw[wkS];rfl
abbrev w9(p:Proc):List Vt:=p6 p.body 1 []
section
variable {σ:Type} (fS:σ→St→Nat→σ) (fR:σ→Ex→σ)
def qf(s:σ)(l:List Vt):σ:=l.foldl (fun s v=>if v.isS then fS s v.t v.d else if v.root then fR s v.e else s) s
theorem jo3(s:σ)(l:List Vt)(v:Vt):qf fS fR s (l++[v])=if v.isS then fS (qf fS fR s l) v.t v.d else if v.root then fR (qf fS fR s l) v.e else qf fS fR s l:=by
 simp[qf,ql0]
theorem jkw(s:σ)(l:List Vt)(t:St)(d:Nat):qf fS fR s (l++[Vt.ofS t d])=fS (qf fS fR s l) t d:=qk3
theorem xya(s:σ)(l:List Vt)(e:Ex):qf fS fR s (l++[Vt.ofE e false])=qf fS fR s l:=qk3
theorem jn0(s:σ)(l:List Vt)(e:Ex):qf fS fR s (l++[Vt.ofE e true])=fR (qf fS fR s l) e:=qk3
mutual
theorem jbz:∀(e:Ex) (out:List Vt) (s:σ),out.length≤401→(uz e false out).length≤401∧exW e (401 - out.length)=401 - (uz e false out).length∧qf fS fR s (uz e false out)=qf fS fR s out
 | .mk op n x args,out,s,h=>by
  rw[uz,exW];by_cases h1:400<out.length
  ·rw[if_pos h1,if_pos aa];exact⟨h,aa,rfl⟩
  ·rw[if_neg h1,if_neg aa];have:=xda args (out++[Vt.ofE (.mk op n x args) false]) s am;refine⟨this.1,?_,this.2.2.trans (xya _ _ _ _ _)⟩;rw[←this.2.1];congr 1;simp;omega
theorem xda:∀(l:List Ex) (out:List Vt) (s:σ),out.length≤401→(y3 l out).length≤401∧qsj l (401 - out.length)=401 - (y3 l out).length∧qf fS fR s (y3 l out)=qf fS fR s out
 | [],out,s,h=>by rw[y3,qsj];exact⟨h,rfl,rfl⟩
 |e::l,out,s,h=>by
  rw[y3,qsj];by_cases h1:out.length≤400
  ·rw[if_pos h1];have h2:=jbz e out s h;have h3:=xda l (uz e false out) s h2.1;rw[h2.2.1];exact⟨h3.1,h3.2.1,h3.2.2.trans h2.2.2⟩
  ·rw[if_neg h1];have e0:401 - out.length=0:=aa;rw[e0];have:=xeo e 0;have h4:exW e 0=0:=aa;have:=xe3 l 0;rw[h4];exact⟨h,aa,rfl⟩
end
theorem xqo(e:Ex)(out:List Vt)(s:σ)(h:out.length≤401):(tc e out).length≤401∧pj fR e (401 - out.length,qf fS fR s out)=(401 - (tc e out).length,qf fS fR s (tc e out)):=by
 unfold tc pj;by_cases ha:zp e=true
 ·rw[if_pos ha,if_pos (.inr ha)];exact⟨h,rfl⟩
 ·rw[if_neg ha];by_cases h1:400<out.length
  ·rw[if_pos (.inl cc),xdu,if_pos h1];exact⟨h,rfl⟩
  ·have hn:¬(401 - out.length=0∨zp e=true):=by rintro(g|g);omega;exact ha g
   dsimp only;rw[if_neg hn,xdu,if_neg h1];have:=xda fS fR e.args (out++[Vt.ofE e true]) s am;refine⟨this.1,?_⟩;rw[this.2.2,jn0,←this.2.1,xdx,if_neg (show ¬401 - out.length=0 by omega)];congr 2;simp;omega
mutual
theorem jlm:∀(t:St) (d:Nat) (out:List Vt) (s:σ),out.length≤401→(wkS t d out).length≤401∧uf fS fR t d (401 - out.length,qf fS fR s out)=(401 - (wkS t d out).length,qf fS fR s (wkS t d out))
 | .mk _ _ _ a b body els,d,out,s,h=>by
  rw[wkS,uf];have h1:=xqo fS fR a out s h;have h2:=xqo fS fR b _ s h1.1;have h3:=xcr body (d+1) _ s h2.1;have h4:=xcr els (d+1) _ s h3.1;rw[h1.2,h2.2,h3.2,h4.2];exact⟨h4.1,rfl⟩
theorem xcr:∀(l:List St) (d:Nat) (out:List Vt) (s:σ),out.length≤401→(p6 l d out).length≤401∧mh fS fR l d (401 - out.length,qf fS fR s out)=(401 - (p6 l d out).length,qf fS fR s (p6 l d out))
 | [],d,out,s,h=>by rw[p6,mh];exact⟨h,rfl⟩
 |t::l,d,out,s,h=>by
  rw[p6,mh];by_cases h1:out.length≤400
  ·rw[if_pos h1,if_neg cc];have h2:=jlm t d (out++[Vt.ofS t d]) s am;have h3:=xcr l d _ s h2.1;rw[←h3.2,←h2.2,jkw];refine⟨h3.1,?_⟩;simp only[cz,f8];congr 3
  ·rw[if_neg h1,if_pos cc];exact⟨h,rfl⟩
end
theorem qwd(p:Proc)(s:σ):(w9 p).length≤401∧mh fS fR p.body 1 (401,s)=(401 - (w9 p).length,qf fS fR s (w9 p)):=xcr fS fR p.body 1 [] s ae
end
def qsw:List Vt→Int
 | []=>0
 |v::l=>if v.isS=true∧sg v.t v.d≠0 then sg v.t v.d else qsw l
theorem xnd:∀(l:List Vt) (s:Int),qf uw md s l=if s≠0 then s else qsw l
 | [],s=>by simp[qf,qsw]
 |v::l,s=>by
  have:qf uw md s (v::l)=qf uw md (if v.isS then uw s v.t v.d else if v.root then md s v.e else s) l:=rfl;rw[this,xnd l,qsw];cases hv:v.isS
  ·simp[md]
  ·simp only[uw,if_true,true_and];by_cases h:s=0
   ·simp only[h,if_true];by_cases h2:sg v.t v.d=0<;>simp[h2]
   ·simp[h]
theorem jmi(p:Proc):s7 p=if qnu p.name=false then 7 else if qtb p.params≠0 then qtb p.params else if qsw (w9 p)≠0 then qsw (w9 p)else if 400<(w9 p).length then 2 else 0:=by
 unfold s7;have h:=qwd uw md p (0:Int);rw[h.2,xnd];simp only[ne_eq,not_true_eq_false,if_false];split
 ·rfl
 split
 ·rfl
 by_cases h1:qsw (w9 p)=0
 ·simp only[h1,not_true_eq_false,if_false];by_cases h2:400<(w9 p).length
  ·rw[if_pos h2,if_pos ⟨trivial,aa⟩]
  ·rw[if_neg h2,if_neg aa]
 ·simp only[h1,not_false_eq_true,if_true,false_and,if_false]
def qpy:List Vt→List g9
 | []=>[]
 |v::l=>if v.isS=true∧(v.t.op=1∨v.t.op=6)then v.t.name::qpy l else qpy l
theorem xqm:∀(l:List Vt) (s:List g9),qf tu md s l=s++qpy l
 | [],s=>by simp[qf,qpy]
 |v::l,s=>by
  have:qf tu md s (v::l)=qf tu md (if v.isS then tu s v.t v.d else if v.root then md s v.e else s) l:=rfl;rw[this,xqm l,qpy];cases hv:v.isS
  ·simp[md]
  ·simp only[tu,if_true,true_and];split<;>simp
theorem xqp(p:Proc):yp p=p.params.map (·.name)++qpy (w9 p):=by
 unfold yp;rw[(qwd tu md p _).2,xqm]
def qpn:List Vt→List Ex
 | []=>[]
 |v::l=>if v.root then v.e::qpn l else qpn l
def okV(v:Vt):Prop:=v.isS=true→v.root=false
theorem xp6:∀(l:List Vt) (s:List Ex),(∀v∈l,okV v)→qf xg qpb s l=s++qpn l
 | [],s,_=>by simp[qf,qpn]
 |v::l,s,h=>by
  have:qf xg qpb s (v::l)=qf xg qpb (if v.isS then xg s v.t v.d else if v.root then qpb s v.e else s) l:=rfl;rw[this,xp6 l _ (fun x hx=>h x bt),qpn];cases hv:v.isS
  ·simp only[qpb,fw,if_false];split<;>simp
  ·have:=h v ae hv;simp[xg,this]
mutual
theorem xqf:∀(e:Ex) (r:Bool) (out:List Vt),(∀v∈out,okV v)→∀v∈uz e r out,okV v
 | .mk op n x args,r,out,h=>by
  rw[uz];split
  ·exact h
  ·refine xth args _ fun v hv=>?_;rcases dt.1 hv with hv|hv
   ·exact h v hv
   ·rw[ei.1 hv];intro h;cases h
theorem xth:∀(l:List Ex) (out:List Vt),(∀v∈out,okV v)→∀v∈y3 l out,okV v
 | [],out,h=>by rw[y3];exact h
 |e::l,out,h=>by
  rw[y3];split
  ·exact xth l _ (xqf e false out h)
  ·exact h
end
theorem xwc(e:Ex)(out:List Vt)(h:∀v∈out,okV v):∀v∈tc e out,okV v:=by
 unfold tc;split
 ·exact h
 ·exact xqf e true out h
mutual
theorem jgb:∀(t:St) (d:Nat) (out:List Vt),(∀v∈out,okV v)→∀v∈wkS t d out,okV v
 | .mk _ _ _ a b body els,d,out,h=>by
  rw[wkS];exact xfp els _ _ (xfp body _ _ (xwc b _ (xwc a _ h)))
theorem xfp:∀(l:List St) (d:Nat) (out:List Vt),(∀v∈out,okV v)→∀v∈p6 l d out,okV v
 | [],d,out,h=>by rw[p6];exact h
 |t::l,d,out,h=>by
  rw[p6];split
  ·refine xfp l d _ (jgb t d _ fun v hv=>?_);rcases dt.1 hv with hv|hv
   ·exact h v hv
   ·rw[ei.1 hv];intro h;rfl
  ·exact h
end
theorem xu8(p:Proc):rg p=qpn (w9 p):=by
 unfold rg;rw[(qwd xg qpb p _).2];have:=xp6 (w9 p) [] (xfp p.body 1 [] ae);simpa using this
theorem xq4{t:St}{d:Nat}(h:tv t d){e:Ex}(he:e=t.a∨e=t.b)(hn:zp e=false):mg e 1=0:=by
 have h1:=((xc t d).1 h).1;have hu:(mu t.op).2=true∧vd t (mu t.op).1=true:=by
  unfold sg at h1;by_cases h:(mu t.op).2=false∨vd t (mu t.op).1=false
  ·rw[if_pos h]at h1;cases h1
  ·simpa using h
 have hs:=hu.2;unfold vd at hs;rcases he with rfl|rfl
 ·refine xtd h1 ?_;cases ha:(mu t.op).1.a
  ·simp[ha,hn]at hs
  ·rfl
 ·refine xn0 h1 ?_;cases ha:(mu t.op).1.b
  ·simp[ha,hn]at hs
  ·rfl
theorem xrh{e:Ex}{x:Nat×List Ex}{P:Ex→Prop}(h:∀y∈x.2,P y)(he:zp e=false→P e):∀y∈(pj qpb e x).2,P y:=by
 unfold pj;split
 ·exact h
 ·rename_i hn;simp only[not_or,Bool.not_eq_true]at hn;intro y hy;rcases dt.1 hy with hy|hy
  ·exact h y hy
  ·rw[ei.1 hy];exact he hn.2
mutual
theorem jmm:∀(t:St) (d:Nat) (x:Nat×List Ex),tv t d→(∀y∈x.2,mg y 1=0)→∀y∈(uf xg qpb t d x).2,mg y 1=0
 | .mk op nm mx a b body els,d,x,hk,h=>by
  have kb:=(xc _ _).1 hk;rw[uf];refine xgr els _ _ kb.2.2 (xgr body _ _ kb.2.1 (xrh (xrh h fun hn=>?_) fun hn=>?_))
  ·exact xq4 hk (.inl rfl) hn
  ·exact xq4 hk (.inr rfl) hn
theorem xgr:∀(l:List St) (d:Nat) (x:Nat×List Ex),x6 l d→(∀y∈x.2,mg y 1=0)→∀y∈(mh xg qpb l d x).2,mg y 1=0
 | [],d,x,hk,h=>by rw[mh];exact h
 |t::l,d,x,hk,h=>by
  rw[mh];split
  ·exact h
  ·exact xgr l d _ (fun y hy=>hk y cm) (jmm t d _ (hk t ae) h)
end
theorem jnn{p:Proc}(h:s7 p=0):∀e∈rg p,mg e 1=0:=xgr p.body 1 _ (qzb h) ae
end Go.Cw
