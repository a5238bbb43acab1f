/- Part 26 of a proof: CwSb, CwSc -/
import Derived.Test.YtilhejdbiionhaaGreatDoorR25
set_option linter.all false

namespace Go.Cw
open Go Go.Abs
def loopR(body:RM→RM)(name:qac)(b:Int):Nat→Int→RM→RM
 | 0,_,m=>m
 |f+1,i,m=>if i<b∧m.st=0 then(if (qdo m).st=0 then loopR body name b f (W64 (i+1)) (body { qdo m with vars:=setR (qdo m).vars ⟨name,vI i⟩ })else loopR body name b f (W64 (i+1)) (qdo m))else m
section
variable (C:Cfg)
mutual
def stR:St→RM→RM
 | .mk op name mx a b body els,m =>
  if op=8 then m.ab mx
  else if (evR C a m).2.st≠0 then(evR C a m).2
  else if op=1∨op=2 then { (evR C a m).2 with vars:=setR (evR C a m).2.vars ⟨name,(evR C a m).1⟩ }
  else if op=4 then storeR C (evR C a m).2 (evR C a m).1.s V.nil
  else if op=7 then emitR (evR C a m).2 (evR C a m).1
  else if op=5 then(if (evR C a m).1.n=1 then blkR body (evR C a m).2 else blkR els (evR C a m).2)
  else if (evR C b (evR C a m).2).2.st≠0 then(evR C b (evR C a m).2).2
  else if op=3 then storeR C (evR C b (evR C a m).2).2 (evR C a m).1.s (evR C b (evR C a m).2).1
  else if (evR C a m).1.n<(evR C b (evR C a m).2).1.n∧((qb4 (evR C b (evR C a m).2).1.n (evR C a m).1.n).2≠0∨mx<(qb4 (evR C b (evR C a m).2).1.n (evR C a m).1.n).1)then(evR C b (evR C a m).2).2.ab 1005
  else loopR (fun m=>blkR body m) name (evR C b (evR C a m).2).1.n ((evR C b (evR C a m).2).1.n - (evR C a m).1.n).toNat (evR C a m).1.n (evR C b (evR C a m).2).2
def blkR:List St→RM→RM
 | [],m=>m
 |t::l,m=>if m.st≠0 then m else if (qdo m).st=0 then blkR l (stR t (qdo m))else blkR l (qdo m)
end
end
theorem blkR_dead(C:Cfg):∀(l:List St) {m:RM},m.st≠0→blkR C l m=m
 | [],m,h=>by rw[blkR]
 |t::l,m,h=>by rw[blkR,if_pos h]
theorem loopR_dead{body:RM→RM}{name:qac}{b:Int}:∀(f:Nat) (i:Int) {m:RM},m.st≠0→loopR body name b f i m=m
 | 0,i,m,h=>by rw[loopR]
 |f+1,i,m,h=>by rw[loopR,if_neg (fun g=>h g.2)]
theorem loopS_end{body:MS→Except Stop Unit×MS}{name:qac}{b:Int}:∀(f:Nat) {i:Int} {s:MS},¬i<b→loopS body name b f i s=(.ok (),s)
 | 0,i,s,h=>by rw[loopS]
 |f+1,i,s,h=>by rw[loopS,if_neg h]
theorem loopR_end{body:RM→RM}{name:qac}{b:Int}:∀(f:Nat) {i:Int} {m:RM},¬i<b→loopR body name b f i m=m
 | 0,i,m,h=>by rw[loopR]
 |f+1,i,m,h=>by rw[loopR,if_neg (fun g=>h g.1)]
structure Pre(G:Vis)(r p:Nat)(s:MS)(m:RM):Prop where
 inv:Inv r p s
 vm:vM s
 ty:tyS G s
 sim:Sim s m
def Post(G:Vis)(x:Except Stop Unit×MS)(m:RM):Prop:=match x.1 with
 | .ok _=>Pre G 0 0 x.2 m
 | .error z=>Dead z x.2 m
theorem tyS_set{G:Vis}{s:MS}{k:qac}{v:V}(h:tyS G s)(hk:∀ty,qbg G k=some ty→v.k=ty):tyS G { s with vars:=qbr s.vars k v }:=fun x w ty hx hg=>by
 simp only at hx;rw[qb3]at hx;split at hx
 ·rename_i e;subst e;cases hx;exact hk ty hg
 ·exact h x w ty hx hg
theorem Sim.set{s:MS}{m:RM}(h:Sim s m)(k:qac)(v:V):Sim { s with vars:=qbr s.vars k v } { m with vars:=setR m.vars ⟨k,v⟩ }:=⟨fun x=>by
 simp only;rw[qb3,(setR_map _ _ _).1,(setR_map _ _ _).2];by_cases hx:k=x
 ·simp[hx]
 ·simp[hx,h.vars x],h.own,h.keys,h.out,h.reads,h.puts,h.steps,h.st,h.code,h.miss⟩
section
variable {C:Cfg} (hV:vC C) (hC:rngC C)
include hV hC
theorem pre_ev{G vis:Vis}{e:Ex}{r p:Nat}{s:MS}{m:RM}(hg:goX e)(hc:chkE e 1=0)(h:Pre G (r+4095) p s m) :
  (∀z s',evE C e s=(.error z,s')→Dead z s' (evR C e m).2) ∧
  (∀v s',evE C e s=(.ok v,s')→(evR C e m).1=v∧Pre G r p s' (evR C e m).2∧okX v∧qcx v∧∀ty,subV vis G→ofE vis e=(ty,0)→v.k=ty∧1≤ty∧ty≤3):=by
 have hS:=sim_ev hV hC e 1 s m hc hg.1 h.vm h.inv.rng h.inv.ar h.sim;have hI:=h.inv.eval hC (r:=r) hg;have hE:=evE_ok hC e s hg.1 h.inv.rng h.inv.ar;refine⟨fun z s' hx=>?_,fun v s' hx=>?_⟩
 ·rw[hx]at hS;exact(show _∧Dead z s' (evR C e m).2 from hS).2
 ·have hk:=okX_ev hV hC e 1 s s' v hc hg.1 h.vm h.inv.rng h.inv.ar hx;have ht:=fun ty (hsub:subV vis G) (ho:ofE vis e=(ty,0))=>kind_ev (C:=C) hsub hc ho h.ty hx;rw[hx]at hS hI hE;have hS:(evR C e m).1=v∧Sim s' (evR C e m).2:=hS;refine⟨hS.1,⟨hI.1,vM_ev hE.1 h.vm,?_,hS.2⟩,hk,hI.2 v rfl,ht⟩;have:s'.vars=s.vars:=by have:=hE.1.eq;simp only at this;rw[this]
  intro k w ty hw hg;rw[this]at hw;exact h.ty k w ty hw hg
omit hV hC in
theorem pre_tick{G:Vis}{s:MS}{m:RM}(h:Pre G 0 0 s m):(∀z s',tickS s=(.error z,s')→(qdo m).st≠0∧Dead z s' (qdo m))∧(∀u s',tickS s=(.ok u,s')→(qdo m).st=0∧Pre G 8192 1 s' (qdo m)):=by
 have hS:=sim_tick h.sim h.inv.st;refine⟨fun z s' hx=>?_,fun u s' hx=>?_⟩
 ·rw[hx]at hS;have hS:Dead z s' (qdo m):=hS;exact⟨by rw[hS.st];exact hS.ne,hS⟩
 ·have hi:=h.inv.tick hx;have hv:s'.vars=s.vars∧s'.own=s.own:=by
   unfold tickS at hx;have:=congrArg Prod.snd hx;simp only at this;subst this;exact⟨rfl,rfl⟩
  rw[hx]at hS;have hS:Sim s' (qdo m):=hS;refine⟨hS.st,hi,⟨by rw[hv.1];exact h.vm.1,by rw[hv.2];exact h.vm.2⟩,fun k w ty hw hg=>h.ty k w ty (by rw[←hv.1];exact hw) hg,hS⟩
omit hV hC in
theorem sim_loop{G:Vis}{body:MS→Except Stop Unit×MS}{bodyR:RM→RM}{name:qac}{b:Int}(hb64:i64 b)(hG:∀ty,qbg G name=some ty→ty=1)
  (hb:∀s m,Pre G 8192 1 s m→Post G (body s) (bodyR m)):∀(f g:Nat) (i:Int) (s:MS) (m:RM),i64 i→b - i≤f→b - i≤g→Pre G 0 0 s m→Post G (loopS body name b f i s) (loopR bodyR name b g i m)
 | 0,g,i,s,m,hi,h1,h2,h=>by
  rw[loopS_end 0 (by omega),loopR_end g (by omega)];exact h
 |f+1,0,i,s,m,hi,h1,h2,h=>by
  rw[loopS_end _ (by omega),loopR_end 0 (by omega)];exact h
 |f+1,g+1,i,s,m,hi,h1,h2,h=>by
  by_cases hlt:i<b
  ·obtain⟨t1,t2⟩:=pre_tick h;rw[loopS,if_pos hlt,loopR,if_pos ⟨hlt,h.sim.st⟩];have hw:W64 (i+1)=i+1:=W64_id (by have:=hi.1;omega) (by have:=hb64.2;omega);rcases hx:tickS s with⟨z|u,s'⟩
   ·obtain⟨e1,e2⟩:=t1 _ _ hx;simp only;rw[if_neg e1,loopR_dead _ _ e1];exact e2
   ·obtain⟨e1,e2⟩:=t2 _ _ hx;simp only;rw[if_pos e1];have hp:Pre G 8192 1 { s' with vars:=qbr s'.vars name (vI i) } { qdo m with vars:=setR (qdo m).vars ⟨name,vI i⟩ }:=⟨e2.inv.vars (rng_vI hi) name,⟨fun q hq=>by
     rcases kSet_mem hq with rfl|hq
     ·exact okX_vI i
     ·exact e2.vm.1 q hq,e2.vm.2⟩,tyS_set e2.ty (fun ty hg=>(hG ty hg).symm),e2.sim.set name (vI i)⟩
    have hB:=hb _ _ hp;rcases hy:body { s' with vars:=qbr s'.vars name (vI i) }with⟨z|u',s''⟩
    ·rw[hy]at hB;have hB:Dead z s'' _:=hB;simp only;rw[loopR_dead _ _ (by rw[hB.st];exact hB.ne)];exact hB
    ·rw[hy]at hB;have hB:Pre G 0 0 s'' _:=hB;simp only;rw[hw];exact sim_loop hb64 hG hb f g (i+1) s'' _ ⟨by have:=hi.1;omega,by have:=hb64.2;omega⟩ (by omega) (by omega) hB
  ·rw[loopS_end _ hlt,loopR_end _ hlt];exact h
end
theorem sub_num{a b:Int}(ha:i64 a)(hb:i64 b)(h:a<b):((qb4 b a).2≠0∨(∀mx,mx<(qb4 b a).1↔mx<b - a))∧((qb4 b a).2≠0→9223372036854775807<b - a):=by
 obtain⟨a1,a2⟩:=ha;obtain⟨b1,b2⟩:=hb;have e:W64 (b - a)=if b - a≤9223372036854775807 then b - a else b - a - 18446744073709551616:=by
  unfold W64;simp only[IntKind.wrap,IntKind.bits,IntKind.signed,Bool.true_and,decide_eq_true_eq,show(2:Int) ^ (64 - 1)=9223372036854775808 by decide,show(2:Int) ^ 64=18446744073709551616 by decide];split<;>split<;>omega
 unfold qb4;rw[e];by_cases h1:b - a≤9223372036854775807
 ·rw[if_pos h1,if_neg (by omega)];refine⟨.inr fun mx=>by simp,fun h=>by simp at h⟩
 ·rw[if_neg h1,if_pos (by omega)];exact⟨.inl (by simp),fun _=>by omega⟩
theorem many_iff{a b mx:Int}(ha:i64 a)(hb:i64 b)(h1:1≤mx)(h2:mx≤16):tooMany a b mx↔(a<b∧((qb4 b a).2≠0∨mx<(qb4 b a).1)):=by
 unfold tooMany;refine and_congr_right fun h=>?_;have hn:=sub_num ha hb h;have key:IntKind.u64.wrap mx<IntKind.u64.wrap (IntKind.u64.wrap b - IntKind.u64.wrap a)↔mx<b - a:=by
  obtain⟨a1,a2⟩:=ha;obtain⟨b1,b2⟩:=hb;simp only[IntKind.wrap,IntKind.bits,IntKind.signed];simp;omega
 rw[key];rcases hn.1 with h3|h3
 ·have:=hn.2 h3;exact⟨fun _=>.inl h3,fun _=>by omega⟩
 ·rw[←h3];exact⟨.inr,fun g=>g.elim (fun g=>(h3 mx).2 (by have:=hn.2 g;omega)) id⟩
end Go.Cw

namespace Go.Cw
open Go Go.Abs
theorem stR_eq(C:Cfg)(t:St)(m:RM):stR C t m =
  if t.op=8 then m.ab t.max
  else if (evR C t.a m).2.st≠0 then(evR C t.a m).2
  else if t.op=1∨t.op=2 then { (evR C t.a m).2 with vars:=setR (evR C t.a m).2.vars ⟨t.name,(evR C t.a m).1⟩ }
  else if t.op=4 then storeR C (evR C t.a m).2 (evR C t.a m).1.s V.nil
  else if t.op=7 then emitR (evR C t.a m).2 (evR C t.a m).1
  else if t.op=5 then(if (evR C t.a m).1.n=1 then blkR C t.body (evR C t.a m).2 else blkR C t.els (evR C t.a m).2)
  else if (evR C t.b (evR C t.a m).2).2.st≠0 then(evR C t.b (evR C t.a m).2).2
  else if t.op=3 then storeR C (evR C t.b (evR C t.a m).2).2 (evR C t.a m).1.s (evR C t.b (evR C t.a m).2).1
  else if (evR C t.a m).1.n<(evR C t.b (evR C t.a m).2).1.n∧((qb4 (evR C t.b (evR C t.a m).2).1.n (evR C t.a m).1.n).2≠0∨t.max<(qb4 (evR C t.b (evR C t.a m).2).1.n (evR C t.a m).1.n).1)then(evR C t.b (evR C t.a m).2).2.ab 1005
  else loopR (blkR C t.body) t.name (evR C t.b (evR C t.a m).2).1.n ((evR C t.b (evR C t.a m).2).1.n - (evR C t.a m).1.n).toNat (evR C t.a m).1.n (evR C t.b (evR C t.a m).2).2:=by
 cases t;rw[stR];rfl
theorem stI_6(C:Cfg){t:St}(h:t.op=6)(m:MS):stI C t m =
  match evE C t.a m with
  |(.error z,m')=>(.error z,m')
  |(.ok u,m')=>match evE C t.b m' with
   |(.error z,m'')=>(.error z,m'')
   |(.ok v,m'') =>
    if u.k=1∧v.k=1 then
     (if tooMany u.n v.n t.max then(.error (ab 1005),m'')else loopS (blkI C t.body) t.name v.n 16386 u.n m'')
    else(.error (ab 1009),m''):=by
 cases t with
 |mk op name mx a b body els =>
  simp only[St.op]at h;subst h;rw[stI];simp;rfl
theorem Pre.mono{G:Vis}{r p r' p':Nat}{s:MS}{m:RM}(h:Pre G r p s m)(h1:r'≤r)(h2:p'≤p):Pre G r' p' s m:=⟨h.inv.mono h1 h2,h.vm,h.ty,h.sim⟩
theorem okS_op{t:St}{d:Nat}(h:okS t d):t.op=1∨t.op=2∨t.op=3∨t.op=4∨t.op=5∨t.op=6∨t.op=7∨t.op=8:=by
 have h1:=((qco t d).1 h).1;unfold qbo at h1;by_cases hu:(qa8 t.op).2=false
 ·rw[if_pos (.inl hu)]at h1;cases h1
 ·unfold qa8 at hu;split at hu
  ·omega
  split at hu
  ·omega
  split at hu
  ·omega
  split at hu
  ·omega
  split at hu
  ·omega
  split at hu
  ·omega
  ·simp at hu
section
variable {C:Cfg} (hV:vC C) (hC:rngC C) {G:Vis}
include hV hC
theorem post_store{x:Except Stop Unit×MS}{s:MS}{m m':RM}{k:qac}{v:V}{r:Nat}(hx:x=qcq C k v s)(h:Pre G r 1 s m)(hw:okW v)(hr:qcx v)(hm:m'=storeR C m k v):Post G x m':=by
 subst hx hm;have hS:=sim_store (C:=C) h.sim k v;rcases hy:qcq C k v s with⟨z|u,s'⟩
 ·rw[hy]at hS;exact hS
 ·rw[hy]at hS;have hS:Sim s' _:=hS;have hv:s'.vars=s.vars:=by
   unfold qcq at hy;split at hy
   ·cases hy
   split at hy
   ·cases hy
   ·cases hy;rfl
  exact⟨(h.inv.store hr hy).mono (Nat.zero_le _) (Nat.le_refl _),vM_store hV hC h.vm hw hy,fun k w ty hw hg=>h.ty k w ty (by rw[←hv];exact hw) hg,hS⟩
theorem post_emit{s:MS}{m:RM}{v:V}{r p:Nat}(h:Pre G r p s m):Post G (emitS v s) (emitR m v):=by
 have hS:=sim_emit h.sim h.inv.ot v;rcases hy:emitS v s with⟨z|u,s'⟩
 ·rw[hy]at hS;exact hS
 ·rw[hy]at hS;have hS:Sim s' _:=hS;have hv:s'.vars=s.vars:=by
   unfold emitS at hy;split at hy
   ·cases hy
   ·cases hy;rfl
  exact⟨(h.inv.emit hy).mono (Nat.zero_le _) (Nat.zero_le _),vM_emit hV hC h.vm hy,fun k w ty hw hg=>h.ty k w ty (by rw[←hv];exact hw) hg,hS⟩
theorem sim_step{t:St}{d:Nat}{ts:TS}{s:MS}{m:RM}(hok:okS t d)(hg:goS t)(hT:TOk ts)(hf:fresh (nmS t) ts)(h0:(stT t ts).1=0)(hsub:subV (stT t ts).2.all G)(h:Pre G 8192 1 s m)
  (hB:∀ts s m,TOk ts→fresh (nmL t.body) ts→(qde t.body ts).1=0→subV (qde t.body ts).2.all G→Pre G 0 0 s m→Post G (blkI C t.body s) (blkR C t.body m))
  (hE:∀ts s m,TOk ts→fresh (nmL t.els) ts→(qde t.els ts).1=0→subV (qde t.els ts).2.all G→Pre G 0 0 s m→Post G (blkI C t.els s) (blkR C t.els m)):Post G (stI C t s) (stR C t m):=by
 have hgo:=(goS_iff t).1 hg;have hTG:=go_st t ts hT hf h0;have hvis:subV ts.visible G:=hT.sub.trans (hTG.mono.trans hsub);rw[nmS_eq]at hf;rw[stT_eq]at h0 hsub hTG;unfold stStep at h0 hsub;have hop:=okS_op hok;by_cases he:(qc5 ts.visible t).2.2≠0
 ·rw[if_pos he]at h0;exact(he h0).elim
 rw[if_neg he]at h0 hsub;have he:(qc5 ts.visible t).2.2=0:=by simpa using he
 rw[stR_eq];by_cases h8:t.op=8
 ·rw[if_pos h8,stI_eq];rw[if_neg (by omega),if_neg (by omega),if_neg (by omega),if_neg (by omega),if_neg (by omega),if_neg (by omega),if_pos h8];exact h.sim.ab _
 rw[if_neg h8];have hea:=pre_ev hV hC (G:=G) (vis:=ts.visible) (r:=4097) (p:=1) (hgo.1 h8) (okS_a hok h8) h
 -- the type of the first operand
 have hta:(ofE ts.visible t.a).2=0:=by
  unfold qc5 at he;rw[if_neg h8]at he;by_cases h1:(ofE ts.visible t.a).2=0
  ·exact h1
  ·rw[if_neg (fun g=>h1 g.1)]at he;exact he
 have hea1:ofE ts.visible t.a=((ofE ts.visible t.a).1,0):=by rw[←hta]
 have ho1:(qc5 ts.visible t).1=(ofE ts.visible t.a).1:=by
  unfold qc5;rw[if_neg h8];split<;>rfl
 rcases hx:evE C t.a s with⟨z|u,s1⟩
 ·have hD:=hea.1 z s1 hx;rw[if_pos (by rw[hD.st];exact hD.ne)];have:stI C t s=(.error z,s1):=by
   by_cases h6:t.op=6
   ·rw[stI_6 C h6,hx]
   ·rw[stI_eq,hx,if_neg h6,if_neg h8];split<;>try rfl
    split<;>try rfl
    split<;>try rfl
    split<;>try rfl
    split<;>try rfl
    omega
  rw[this];exact hD
 obtain⟨eu,hP,oku,rngu,htu⟩:=hea.2 u s1 hx;have hku:=htu _ hvis hea1;rw[if_neg (by rw[hP.sim.st];simp),eu];by_cases h1:t.op=1∨t.op=2
 ·rw[if_pos h1];have hst:stI C t s=(.ok (),{ s1 with vars:=qbr s1.vars t.name u }):=by
   rw[stI_eq,if_pos h1,hx]
  rw[hst];have hG:∀ty,qbg G t.name=some ty→u.k=ty:=fun ty hg=>by
   rcases h1 with h1|h1
   ·rw[if_pos h1]at hsub;have:=hsub t.name (qc5 ts.visible t).1 (by simp only[TS.decl];rw[qb3,if_pos rfl]);rw[this]at hg;cases hg;rw[hku.1,ho1]
   ·rw[if_neg (by omega),if_pos h1]at h0;rcases hv:qbg ts.visible t.name with _|ty'
    ·rw[hv]at h0;cases h0
    ·rw[hv]at h0;simp only at h0;have:=hvis _ _ hv;rw[this]at hg;cases hg;by_cases hl:qbg ts.loops t.name=some true
     ·rw[if_pos hl]at h0;cases h0
     ·rw[if_neg hl]at h0;by_cases hy:ty≠(qc5 ts.visible t).1
      ·rw[if_pos hy]at h0;cases h0
      ·rw[hku.1,←ho1];simpa using Eq.symm (by simpa using hy)
  exact⟨(hP.inv.vars rngu t.name).mono (Nat.zero_le _) (Nat.zero_le _),vM_set hV hC t.name hP.vm oku,tyS_set hP.ty hG,hP.sim.set t.name u⟩
 rw[if_neg h1];have hn1:¬t.op=1:=fun e=>h1 (.inl e);have hn2:¬t.op=2:=fun e=>h1 (.inr e);rw[if_neg hn1,if_neg hn2]at h0 hsub;by_cases h4:t.op=4
 ·rw[if_pos h4];rw[if_neg (by omega),if_pos h4]at h0;have hk2:u.k=2:=by
   rw[hku.1,←ho1];by_cases hy:(qc5 ts.visible t).1≠2
   ·rw[if_pos hy]at h0;cases h0
   ·simpa using hy
  refine post_store hV hC (k:=u.s) (v:=V.nil) ?_ hP okW_nil rng_nil rfl;rw[stI_eq,if_neg h1,if_neg (by omega),if_pos h4,hx];simp only[hk2,if_true]
 rw[if_neg h4];by_cases h7:t.op=7
 ·rw[if_pos h7];rw[if_neg (by omega),if_neg h4,if_pos h7]at h0;have hk3:u.k=1∨u.k=2:=by
   have:u.k≠3:=by
    rw[hku.1,←ho1];by_cases hy:(qc5 ts.visible t).1=3
    ·rw[if_pos hy]at h0;cases h0
    ·exact hy
   rw[hku.1]at this⊢;have:=hku.2;omega
  have hst:stI C t s=emitS u s1:=by
   rw[stI_eq,if_neg h1,if_neg (by omega),if_neg h4,if_neg (by omega),if_neg (by omega),if_pos h7,hx];simp only[hk3,if_true]
  rw[hst];exact post_emit hV hC hP
 rw[if_neg h7];by_cases h5:t.op=5
 ·rw[if_pos h5];rw[if_neg (by omega),if_neg h4,if_neg h7,if_pos h5]at h0 hsub;rw[if_neg (by omega),List.nil_append]at hf;by_cases h6:(qc5 ts.visible t).1≠3
  ·rw[if_pos h6]at h0;simp at h0
  rw[if_neg h6]at h0 hsub;have hk3:u.k=3:=by rw[hku.1,←ho1];simpa using h6
  by_cases h9:(qch t.body (qde t.body) ts).1≠0
  ·rw[if_pos h9]at h0;exact(h9 h0).elim
  rw[if_neg h9]at h0 hsub;have hb1:(qde t.body ts).1=0:=by
   unfold qch at h9;by_cases hb:(qde t.body ts).1≠0
   ·rw[if_pos hb]at h9;exact(h9 hb).elim
   ·simpa using hb
  have g1:=TGo.blk (l:=t.body) (fun g=>go_seq t.body ts hT hf.left g) (by simpa using h9);have hb2:(qde t.els (qch t.body (qde t.body) ts).2).1=0:=by
   obtain⟨X,hX⟩:∃X,X=(qch t.body (qde t.body) ts).2:=⟨_,rfl⟩
   rw[←hX]at h0⊢;unfold qch at h0;by_cases hb:(qde t.els X).1≠0
   ·rw[if_pos hb]at h0;exact(hb h0).elim
   ·simpa using hb
  have g2:=TGo.blk (l:=t.els) (fun g=>go_seq t.els _ g1.ok (hf.right g1) g) h0;have s1':subV (qde t.body ts).2.all G:=by
   have:(qch t.body (qde t.body) ts).2.all=(qde t.body ts).2.all:=by unfold qch;rw[if_neg (by simp[hb1])]
   rw[←this];exact g2.mono.trans hsub
  have s2':subV (qde t.els (qch t.body (qde t.body) ts).2).2.all G:=by
   have:(qch t.els (qde t.els) (qch t.body (qde t.body) ts).2).2.all=(qde t.els (qch t.body (qde t.body) ts).2).2.all:=by
    obtain⟨X,hX⟩:∃X,X=(qch t.body (qde t.body) ts).2:=⟨_,rfl⟩
    rw[←hX]at hb2⊢;unfold qch;rw[if_neg (by simp[hb2])]
   rw[←this];exact hsub
  have hst:stI C t s=if u.n=1 then blkI C t.body s1 else blkI C t.els s1:=by
   rw[stI_eq,if_neg h1,if_neg (by omega),if_neg h4,if_pos h5,hx];simp only[hk3,if_true]
  rw[hst];split
  ·exact hB ts s1 _ hT hf.left hb1 s1' (hP.mono (Nat.zero_le _) (Nat.zero_le _))
  ·exact hE _ s1 _ g1.ok (hf.right g1) hb2 s2' (hP.mono (Nat.zero_le _) (Nat.zero_le _))
 rw[if_neg h5];have h36:t.op=3∨t.op=6:=by omega
 have heb:=pre_ev hV hC (G:=G) (vis:=ts.visible) (r:=2) (p:=1) (hgo.2.1 h36) (okS_b hok h36) hP;have htb:(ofE ts.visible t.b).2=0:=by
  unfold qc5 at he;rw[if_neg h8,if_pos ⟨hta,h36⟩]at he;exact he
 have heb1:ofE ts.visible t.b=((ofE ts.visible t.b).1,0):=by rw[←htb]
 have ho2:(qc5 ts.visible t).2.1=(ofE ts.visible t.b).1:=by
  unfold qc5;rw[if_neg h8,if_pos ⟨hta,h36⟩]
 rcases hy:evE C t.b s1 with⟨z|v,s2⟩
 ·have hD:=heb.1 z s2 hy;rw[if_pos (by rw[hD.st];exact hD.ne)];have:stI C t s=(.error z,s2):=by
   rcases h36 with h3|h6
   ·rw[stI_eq,if_neg h1,if_pos h3,hx];simp only[hy]
   ·rw[stI_6 C h6,hx];simp only[hy]
  rw[this];exact hD
 obtain⟨ev,hQ,okv,rngv,htv⟩:=heb.2 v s2 hy;have hkv:=htv _ hvis heb1;rw[if_neg (by rw[hQ.sim.st];simp),ev];by_cases h3:t.op=3
 ·rw[if_pos h3];rw[if_pos h3]at h0;have hk:u.k=2∧(v.k=1∨v.k=2):=by
   by_cases hz:(qc5 ts.visible t).1≠2∨(qc5 ts.visible t).2.1=3
   ·rw[if_pos hz]at h0;cases h0
   ·rw[hku.1,←ho1,hkv.1];have:=hkv.2;rw[ho2]at hz;omega
  refine post_store hV hC (k:=u.s) (v:=v) ?_ hQ (okX_W okv hk.2) rngv rfl;rw[stI_eq,if_neg h1,if_pos h3,hx];simp only[hy];rw[if_pos hk]
 have h6:t.op=6:=by omega
 rw[if_neg h3,if_neg h4,if_neg h7,if_neg h5,if_pos h6]at h0 hsub;rw[if_neg h3];rw[if_pos (.inr h6)]at hf;by_cases hz:(qc5 ts.visible t).1≠1∨(qc5 ts.visible t).2.1≠1
 ·rw[if_pos hz]at h0;simp at h0
 rw[if_neg hz]at h0 hsub;have hk1:u.k=1∧v.k=1:=by rw[hku.1,←ho1,hkv.1,←ho2];omega
 have hmx:=okS_max hok h6;have g0:=TGo.set hT (hf.2 t.name (by simp)) 1 (qbr ts.loops t.name true);have hfb:=(hf.right g0).left;have hb1:(qde t.body ⟨qbr ts.visible t.name 1,qbr ts.loops t.name true,qbr ts.all t.name 1⟩).1=0:=by
  simp only at h0;unfold qch at h0;by_cases hb:(qde t.body ⟨qbr ts.visible t.name 1,qbr ts.loops t.name true,qbr ts.all t.name 1⟩).1≠0
  ·rw[if_pos hb]at h0;exact(hb h0).elim
  ·simpa using hb
 have s1':subV (qde t.body ⟨qbr ts.visible t.name 1,qbr ts.loops t.name true,qbr ts.all t.name 1⟩).2.all G:=by
  simp only at hsub;unfold qch at hsub;rw[if_neg (by simp[hb1])]at hsub;exact hsub
 have g1:=go_seq t.body _ g0.ok hfb hb1;have hst:stI C t s=if tooMany u.n v.n t.max then(.error (ab 1005),s2)else loopS (blkI C t.body) t.name v.n 16386 u.n s2:=by
  rw[stI_6 C h6,hx];simp only[hy];rw[if_pos hk1]
 rw[hst];have hmi:=many_iff (mx:=t.max) rngu.1 rngv.1 hmx.1 hmx.2;by_cases hm:tooMany u.n v.n t.max
 ·rw[if_pos hm,if_pos (hmi.1 hm)];exact hQ.sim.ab _
 ·rw[if_neg hm,if_neg (fun g=>hm (hmi.2 g))];have hfw:=few rngu.1 rngv.1 hmx.1 hmx.2 hm;have hfw2:v.n - u.n≤16:=by have:=hmx.2;have:=hmx.1;omega
  refine sim_loop (G:=G) (body:=blkI C t.body) (bodyR:=blkR C t.body) rngv.1 (fun ty hg=>?_) (fun s m hp=>?_) 16386 _ u.n s2 _ rngu.1 (by omega) (by omega) (hQ.mono (Nat.zero_le _) (Nat.zero_le _))
  ·have:=(g1.mono.trans s1') t.name 1 (by simp only;rw[qb3,if_pos rfl]);rw[this]at hg;cases hg;rfl
  ·exact hB _ s m g0.ok hfb hb1 s1' (hp.mono (Nat.zero_le _) (Nat.zero_le _))
mutual
theorem sim_st:∀(t:St) (d:Nat) (ts:TS) (s:MS) (m:RM),okS t d→goS t→TOk ts→fresh (nmS t) ts→(stT t ts).1=0→subV (stT t ts).2.all G→Pre G 8192 1 s m→Post G (stI C t s) (stR C t m)
 | .mk op name mx a b body els,d,ts,s,m,hok,hg,hT,hf,h0,hsub,h=>by
  have hok':=(qco _ _).1 hok;have hg':=(goS_iff _).1 hg;exact sim_step hV hC hok hg hT hf h0 hsub h
   (fun ts s m h1 h2 h3 h4 h5=>sim_blk body (d+1) ts s m hok'.2.1 hg'.2.2.1 h1 h2 h3 h4 h5)
   (fun ts s m h1 h2 h3 h4 h5=>sim_blk els (d+1) ts s m hok'.2.2 hg'.2.2.2 h1 h2 h3 h4 h5)
theorem sim_blk:∀(l:List St) (d:Nat) (ts:TS) (s:MS) (m:RM),okL l d→(∀x∈l,goS x)→TOk ts→fresh (nmL l) ts→(qde l ts).1=0→subV (qde l ts).2.all G→Pre G 0 0 s m→Post G (blkI C l s) (blkR C l m)
 | [],d,ts,s,m,_,_,_,_,_,_,h=>by rw[blkI,blkR];exact h
 |t::l,d,ts,s,m,hok,hg,hT,hf,h0,hsub,h=>by
  obtain⟨t1,t2⟩:=pre_tick h;rw[qde]at h0 hsub;rw[nmL]at hf;have he:(stT t ts).1=0:=by
   by_cases he:(stT t ts).1≠0
   ·rw[if_pos he]at h0;exact(he h0).elim
   ·simpa using he
  rw[if_neg (by simp[he])]at h0 hsub;have g1:=go_st t ts hT hf.left he;have g2:=go_seq l _ g1.ok (hf.right g1) h0;rw[blkI,blkR,if_neg (by rw[h.sim.st];simp)];rcases hx:tickS s with⟨z|u,s1⟩
  ·obtain⟨e1,e2⟩:=t1 _ _ hx;simp only;rw[if_neg e1,blkR_dead C l e1];exact e2
  ·obtain⟨e1,e2⟩:=t2 _ _ hx;simp only;rw[if_pos e1];have hS:=sim_st t d ts s1 (qdo m) (hok t (by simp)) (hg t (by simp)) hT hf.left he (g2.mono.trans hsub) e2;rcases hy:stI C t s1 with⟨z|u',s2⟩
   ·rw[hy]at hS;have hS:Dead z s2 _:=hS;simp only;rw[blkR_dead C l (by rw[hS.st];exact hS.ne)];exact hS
   ·rw[hy]at hS;have hS:Pre G 0 0 s2 _:=hS;exact sim_blk l d _ s2 _ (fun x hx=>hok x (by simp[hx])) (fun x hx=>hg x (by simp[hx])) g1.ok (hf.right g1) h0 hsub hS
end
end
section
variable {σ τ:Type} (fS:σ→St→Nat→σ) (fR:σ→Ex→σ) (gS:τ→St→Nat→τ) (gR:τ→Ex→τ)
theorem firstW_cnt(e:Ex)(x:Nat×σ)(y:Nat×τ)(h:x.1=y.1):(qbz fR e x).1=(qbz gR e y).1:=by
 unfold qbz;rw[h];split
 ·exact h
 ·rfl
mutual
theorem stW_cnt:∀(s:St) (d:Nat) (x:Nat×σ) (y:Nat×τ),x.1=y.1→(stW fS fR s d x).1=(stW gS gR s d y).1
 | .mk _ _ _ a b body els,d,x,y,h=>by
  rw[stW,stW];exact blkW_cnt els _ _ _ (blkW_cnt body _ _ _ (firstW_cnt fR gR b _ _ (firstW_cnt fR gR a _ _ h)))
theorem blkW_cnt:∀(l:List St) (d:Nat) (x:Nat×σ) (y:Nat×τ),x.1=y.1→(blkW fS fR l d x).1=(blkW gS gR l d y).1
 | [],d,x,y,h=>by rw[blkW,blkW];exact h
 |s::l,d,x,y,h=>by
  rw[blkW,blkW,h];split
  ·exact h
  ·exact blkW_cnt l d _ _ (stW_cnt s d _ _ rfl)
end
end
mutual
theorem stW_names:∀(s:St) (d:Nat) (x:Nat×List qac),(stW nameS qb2 s d x).1≠0→(stW nameS qb2 s d x).2=x.2++(nmL s.body++nmL s.els)
 | .mk _ _ _ a b body els,d,x,h=>by
  rw[stW]at h⊢;have hl:=blkW_le nameS qb2 els (d+1) (blkW nameS qb2 body (d+1) (qbz qb2 b (qbz qb2 a x)));rw[blkW_names els (d+1) _ h,blkW_names body (d+1) _ (by omega),firstW_keep,firstW_keep];simp[St.body,St.els]
theorem blkW_names:∀(l:List St) (d:Nat) (x:Nat×List qac),(blkW nameS qb2 l d x).1≠0→(blkW nameS qb2 l d x).2=x.2++nmL l
 | [],d,x,h=>by rw[blkW,nmL];simp
 |s::l,d,x,h=>by
  rw[blkW]at h⊢;split
  ·rename_i hz;rw[if_pos hz]at h;exact(h hz).elim
  ·rename_i hz;rw[if_neg hz]at h;have hl:=blkW_le nameS qb2 l d (stW nameS qb2 s d (x.1 - 1,nameS x.2 s d));rw[blkW_names l d _ h,stW_names s d _ (by omega),nmL,nmS_eq];unfold nameS;split<;>simp
end
theorem valid_left{p:Proc}(h:qcn p=0):(blkW valS qb2 p.body 1 (401,(0:Int))).1≠0:=by
 unfold qcn at h;split at h
 ·contradiction
 split at h
 ·contradiction
 simp only at h;split at h
 ·contradiction
 ·rename_i h1;exact fun h2=>h1 ⟨h,h2⟩
theorem namesP_eq{p:Proc}(h:qcn p=0):qd4 p=p.params.map (·.name)++nmL p.body:=by
 unfold qd4;have hc:=blkW_cnt nameS qb2 valS qb2 p.body 1 (401,p.params.map (·.name)) (401,(0:Int)) rfl
 exact blkW_names p.body 1 _ (by rw[hc];exact valid_left h)
theorem dupM_iff:∀(l:List qac) (met:List (qac×Bool)),(∀q∈met,q.2=true)→(dupM met l=false↔l.Nodup∧∀x∈l,x∉qcj met)
 | [],met,_=>by simp[dupM]
 |x::l,met,hm=>by
  have hs:∀q∈qbr met x true,q.2=true:=fun q hq=>by
   rcases kSet_mem hq with rfl|hq
   ·rfl
   ·exact hm q hq
  rw[dupM,Bool.or_eq_false_iff,dupM_iff l _ hs,List.nodup_cons];have hx:(qbg met x).getD false=false↔x∉qcj met:=by
   rw[←qcy];rcases hg:qbg met x with _|v
   ·simp
   ·have:=hm _ (kGet_mem hg);simp only at this;simp[this]
  rw[hx];simp only[qcr,List.mem_cons,forall_eq_or_imp,not_or];constructor
  ·rintro⟨h1,h2,h3⟩;exact⟨⟨fun hm=>(h3 x hm).1 rfl,h2⟩,h1,fun y hy=>(h3 y hy).2⟩
  ·rintro⟨⟨h1,h2⟩,h3,h4⟩;exact⟨h3,h2,fun y hy=>⟨fun e=>h1 (e▸hy),h4 y hy⟩⟩
def qcv:List Param→List V→List Pr→List Pr
 |x::l,v::r,m=>qcv l r (setR m ⟨x.name,v⟩)
 |_,_,m=>m
abbrev rm0(p:Proc)(args:List V):RM:=⟨qcv p.params args [],[],0,0,[],[],[],em,0⟩
def doneR(m:RM):Eff:=if m.st≠0 then⟨m.st,m.code,[],m.reads,m.puts,[],m.miss,m.steps⟩else⟨1,m.code,m.out,m.reads,m.puts,m.own,m.miss,m.steps⟩
def runR(fmt:Int→qac)(p:Proc)(args:List V)(st:List Pr)(ft:Foot):Eff :=
 if qbv p≠0∨qcl p args≠0∨qb7 st=false∨footOk ft.all ft.reads ft.writes=false then wrongE
 else doneR (blkR (cfgR fmt st ft) p.body (rm0 p args))
theorem sim_args:∀(ps:List Param) (vs:List V) (a:List (qac×V)) (b:List Pr),(∀k,qbg a k=if hasP b k=true then some (getP b k)else none)→∀k,qbg (qdp ps vs a) k=if hasP (qcv ps vs b) k=true then some (getP (qcv ps vs b) k)else none
 | [],vs,a,b,h=>by cases vs<;>exact h
 |x::l,[],a,b,h=>h
 |x::l,v::r,a,b,h=>by
  rw[qdp,qcv];refine sim_args l r _ _ fun k=>?_;rw[qb3,(setR_map _ _ _).1,(setR_map _ _ _).2];by_cases hx:x.name=k
  ·simp[hx]
  ·simp[hx,h k]
theorem ty_args:∀(ps:List Param) (vs:List V) (a:List (qac×V)) (ts:TS),argsOk ps vs=true→vs.length=ps.length→(∀k v ty,qbg a k=some v→qbg ts.visible k=some ty→v.k=ty)→(∀k v,qbg a k=some v→∃ty,qbg ts.visible k=some ty) →
  (∀k v ty,qbg (qdp ps vs a) k=some v→qbg (declP ps ts).visible k=some ty→v.k=ty)∧∀k v,qbg (qdp ps vs a) k=some v→∃ty,qbg (declP ps ts).visible k=some ty
 | [],vs,a,ts,_,_,h,h'=>by
  cases vs<;>exact⟨h,h'⟩
 |x::l,[],a,ts,_,hl,h,h'=>by cases hl
 |x::l,v::r,a,ts,ho,hl,h,h'=>by
  simp only[argsOk,Bool.and_eq_true]at ho;rw[qdp];have hd:declP (x::l) ts=declP l (ts.decl x.name x.ty):=rfl;rw[hd];have hk:v.k=x.ty:=by
   have:=ho.1;unfold argOk at this;simp only[Bool.or_eq_true,Bool.and_eq_true,decide_eq_true_eq]at this;omega
  refine ty_args l r _ _ ho.2 (by simpa using hl) (fun k w ty hw hg=>?_) fun k w hw=>?_
  ·simp only[TS.decl]at hg;rw[qb3]at hw hg;split at hw
   ·rename_i e;rw[if_pos e]at hg;cases hw;cases hg;exact hk
   ·rename_i e;rw[if_neg e]at hg;exact h k w ty hw hg
  ·simp only[TS.decl];rw[qb3]at hw⊢;split at hw
   ·rename_i e;rw[if_pos e];exact⟨_,rfl⟩
   ·rename_i e;rw[if_neg e];exact h' k w hw
theorem go_params:∀(ps:List Param) (ts:TS),TOk ts→fresh (ps.map (·.name)) ts→TGo (ps.map (·.name)) ts (declP ps ts)
 | [],ts,h,_=>.refl h _
 |x::l,ts,h,hf=>by
  have hd:declP (x::l) ts=declP l (ts.decl x.name x.ty):=rfl;rw[hd];have hf':fresh ([x.name]++l.map (·.name)) ts:=hf
  have g:=TGo.set h (hf'.2 x.name (by simp)) x.ty ts.loops;exact g.trans (go_params l _ g.ok (hf'.right g))
theorem runR_eq{fmt:Int→qac}{p:Proc}{args:List V}{st:List Pr}{ft:Foot}(hI:RunIn fmt p args st):runR fmt p args st ft=runS fmt p args st ft:=by
 by_cases h:runOk p args st ft
 ·have hr:=(runOk_iff _ _ _ _).1 h;rw[runS_yes h];unfold runR;rw[if_neg h];have hc:=hr.1;have hvp:=cost_valid hc;have hty:qc1 p=0:=by
   have:=cost_det hc;unfold detErr at this;split at this
   ·contradiction
   ·rename_i ht;simpa using ht
  unfold qc1 at hty;rw[if_neg (by simp[hvp])]at hty;split at hty
  ·contradiction
  split at hty
  ·contradiction
  rename_i hdup;have hdup:dupM [] (qd4 p)=false:=by simpa using hdup
  rw[namesP_eq hvp]at hdup;have hnd:=((dupM_iff _ [] (by simp)).1 hdup).1;have hF:fresh (p.params.map (·.name)++nmL p.body) ⟨[],[],[]⟩:=⟨hnd,by simp[qcj]⟩
  have hT0:TOk ⟨[],[],[]⟩:=⟨by simp[qcj],.refl _⟩
  have gP:=go_params p.params ⟨[],[],[]⟩ hT0 hF.left;have hfB:=hF.right gP;have hb1:(qde p.body (declP p.params ⟨[],[],[]⟩)).1=0:=by
   unfold blkT qch at hty;by_cases hb:(qde p.body (declP p.params ⟨[],[],[]⟩)).1≠0
   ·rw[if_pos hb]at hty;exact(hb hty).elim
   ·simpa using hb
  have gB:=go_seq p.body _ gP.ok hfB hb1;have hao:=(argsErr_ok hr.2.1)
  have haok:argsOk p.params args=true:=by
   have:=hr.2.1;unfold qcl at this;split at this
   ·contradiction
   ·split at this
    ·assumption
    ·contradiction
  have hta:=ty_args p.params args [] ⟨[],[],[]⟩ haok hao.1 (by simp[qbg]) (by simp[qbg]);obtain⟨G,hG⟩:∃G,G=(qde p.body (declP p.params ⟨[],[],[]⟩)).2.all:=⟨_,rfl⟩
  have hsub:subV (declP p.params ⟨[],[],[]⟩).visible G:=by rw[hG];exact gP.ok.sub.trans gB.mono
  have hpre:Pre G 0 0 (ms0 p args) (rm0 p args):=by
   refine⟨inv0 hI,vM0 hr.2.1,fun k v ty hv hg=>?_,⟨fun k=>?_,by simp[qd1,anyL,qbg],rfl,rfl,rfl,rfl,rfl,rfl,rfl,rfl⟩⟩
   ·obtain⟨ty',ht'⟩:=hta.2 k v hv;have:=hsub _ _ ht';rw[this]at hg;cases hg;exact hta.1 k v _ hv ht'
   ·exact sim_args p.params args [] [] (by simp[qbg,hasP,anyL]) k
  have hP:=sim_blk (C:=cfgR fmt st ft) (G:=G) (vC_of hI hr.2.2.1) (fun q hq=>hI.st q hq) p.body 1 _ _ _ (cost_okL hc) (cost_goS hc hI.body) gP.ok hfB hb1 (by rw[hG];exact .refl _) hpre;have hfit:=fit_run (fmt:=fmt) (p:=p) (args:=args) (st:=st) (ft:=ft) p.body;rcases hx:blkI (cfgR fmt st ft) p.body (ms0 p args)with⟨z|u,s⟩
  ·rw[hx]at hP;have hP:Dead z s _:=hP;unfold doneR;rw[if_pos (by rw[hP.st];exact hP.ne),hP.st,hP.code,hP.reads,hP.puts,hP.miss,hP.steps];rfl
  ·rw[hx]at hP hfit;have hP:Pre G 0 0 s _:=hP;have hS:=hP.sim;unfold doneR;rw[if_neg (by rw[hS.st];simp),hS.code,hS.out,hS.reads,hS.puts,hS.miss,hS.steps];have hasc:ascS s.puts:=hfit.ap (by simp);have:(blkR (cfgR fmt st ft) p.body (rm0 p args)).own=s.puts.map fun k=>(⟨k,(qbg s.own k).getD V.nil⟩:Pr):=by
    rw[←hS.keys];unfold keysP;rw[List.map_map];refine(List.map_id _).symm.trans (List.map_congr_left fun q hq=>?_);have hk:q.key∈s.puts:=by rw[←hS.keys];exact List.mem_map.2 ⟨q,hq,rfl⟩
    simp only[Function.comp,id];rw[hS.own,if_pos (hasK_iff.2 hk),Option.getD_some,getP_in (by rw[hS.keys];exact hasc) hq]
   simp only[doneS,this]
 ·rw[runS_no h];unfold runR;rw[if_pos (Decidable.not_not.1 h)]
end Go.Cw
