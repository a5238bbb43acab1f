/- Part 28 of a proof: CwSc, CwVa -/
import Derived.Test.YtcjolkgjhcdhcaaGreatDoorR27
set_option linter.all false

namespace Go.Cw
open Go Go.Abs
theorem stR_eq (C:Cfg) (t:St) (m:RM):stR C t m =
  if t.op=8 then m.ab t.max
  else if (evR C t.a m).2.st≠0 then (evR C t.a m).2
  else if t.op=1∨t.op=2 then { (evR C t.a m).2 with vars:=setR (evR C t.a m).2.vars ⟨t.name,(evR C t.a m).1⟩ }
  else if t.op=4 then storeR C (evR C t.a m).2 (evR C t.a m).1.s V.nil
  else if t.op=7 then emitR (evR C t.a m).2 (evR C t.a m).1
  else if t.op=5 then (if (evR C t.a m).1.n=1 then blkR C t.body (evR C t.a m).2 else blkR C t.els (evR C t.a m).2)
  else if (evR C t.b (evR C t.a m).2).2.st≠0 then (evR C t.b (evR C t.a m).2).2
  else if t.op=3 then storeR C (evR C t.b (evR C t.a m).2).2 (evR C t.a m).1.s (evR C t.b (evR C t.a m).2).1
  else if (evR C t.a m).1.n<(evR C t.b (evR C t.a m).2).1.n∧((qcq (evR C t.b (evR C t.a m).2).1.n (evR C t.a m).1.n).2≠0∨t.max<(qcq (evR C t.b (evR C t.a m).2).1.n (evR C t.a m).1.n).1) then (evR C t.b (evR C t.a m).2).2.ab 1005
  else loopR (blkR C t.body) t.name (evR C t.b (evR C t.a m).2).1.n ((evR C t.b (evR C t.a m).2).1.n - (evR C t.a m).1.n).toNat (evR C t.a m).1.n (evR C t.b (evR C t.a m).2).2:=by
 cases t;rw [stR];rfl
theorem stI_6 (C:Cfg) {t:St} (h:t.op=6) (m:MS):stI C t m =
  match evE C t.a m with
  | (.error z,m')=>(.error z,m')
  | (.ok u,m')=>match evE C t.b m' with
   | (.error z,m'')=>(.error z,m'')
   | (.ok v,m'') =>
    if u.k=1∧v.k=1 then
     (if tooMany u.n v.n t.max then (.error (ab 1005),m'') else qcy (qdk C t.body) t.name v.n 16386 u.n m'')
    else (.error (ab 1009),m''):=by
 cases t with
 | mk op name mx a b body els =>
  simp only [St.op] at h;subst h;rw [stI];simp;rfl
theorem Pre.mono {G:Vis} {r p r' p':Nat} {s:MS} {m:RM} (h:Pre G r p s m) (h1:r'≤r) (h2:p'≤p):Pre G r' p' s m:=⟨h.inv.mono h1 h2,h.vm,h.ty,h.sim⟩
theorem okS_op {t:St} {d:Nat} (h:okS t d):t.op=1∨t.op=2∨t.op=3∨t.op=4∨t.op=5∨t.op=6∨t.op=7∨t.op=8:=by
 have h1:=((qcl t d).1 h).1;unfold qbl at h1;by_cases hu:(qba t.op).2=false
 · rw [if_pos (.inl hu)] at h1;cases h1
 ·
  unfold qba at hu;split at hu
  · omega
  split at hu
  · omega
  split at hu
  · omega
  split at hu
  · omega
  split at hu
  · omega
  split at hu
  · omega
  · simp at hu
section
variable {C:Cfg} (hV:vC C) (hC:rngC C) {G:Vis}
include hV hC
theorem post_store {x:Except Stop Unit×MS} {s:MS} {m m':RM} {k:qac} {v:V} {r:Nat} (hx:x=qb6 C k v s) (h:Pre G r 1 s m) (hw:okW v) (hr:qdt v) (hm:m'=storeR C m k v):Post G x m':=by
 subst hx hm;have hS:=sim_store (C:=C) h.sim k v;rcases hy:qb6 C k v s with ⟨z | u,s'⟩
 · rw [hy] at hS;exact hS
 ·
  rw [hy] at hS;have hS:Sim s' _:=hS;have hv:s'.vars=s.vars:=by
   unfold qb6 at hy;split at hy
   · cases hy
   split at hy
   · cases hy
   · cases hy;rfl
  exact ⟨(h.inv.store hr hy).mono (Nat.zero_le _) (Nat.le_refl _),vM_store hV hC h.vm hw hy,fun k w ty hw hg=>h.ty k w ty (by rw [← hv];exact hw) hg,hS⟩
theorem post_emit {s:MS} {m:RM} {v:V} {r p:Nat} (h:Pre G r p s m):Post G (emitS v s) (emitR m v):=by
 have hS:=sim_emit h.sim h.inv.ot v;rcases hy:emitS v s with ⟨z | u,s'⟩
 · rw [hy] at hS;exact hS
 ·
  rw [hy] at hS;have hS:Sim s' _:=hS;have hv:s'.vars=s.vars:=by
   unfold emitS at hy;split at hy
   · cases hy
   · cases hy;rfl
  exact ⟨(h.inv.emit hy).mono (Nat.zero_le _) (Nat.zero_le _),vM_emit hV hC h.vm hy,fun k w ty hw hg=>h.ty k w ty (by rw [← hv];exact hw) hg,hS⟩
theorem sim_step {t:St} {d:Nat} {ts:TS} {s:MS} {m:RM} (hok:okS t d) (hg:goS t) (hT:TOk ts) (hf:fresh (nmS t) ts) (h0:(stT t ts).1=0) (hsub:subV (stT t ts).2.all G) (h:Pre G 8192 1 s m)
  (hB:∀ ts s m,TOk ts→fresh (nmL t.body) ts→(qdf t.body ts).1=0→subV (qdf t.body ts).2.all G→Pre G 0 0 s m→Post G (qdk C t.body s) (blkR C t.body m))
  (hE:∀ ts s m,TOk ts→fresh (nmL t.els) ts→(qdf t.els ts).1=0→subV (qdf t.els ts).2.all G→Pre G 0 0 s m→Post G (qdk C t.els s) (blkR C t.els m)):Post G (stI C t s) (stR C t m):=by
 have hgo:=(goS_iff t).1 hg;have hTG:=go_st t ts hT hf h0;have hvis:subV ts.visible G:=hT.sub.trans (hTG.mono.trans hsub);rw [nmS_eq] at hf;rw [stT_eq] at h0 hsub hTG;unfold stStep at h0 hsub;have hop:=okS_op hok;by_cases he:(qc7 ts.visible t).2.2≠0
 · rw [if_pos he] at h0;exact (he h0).elim
 rw [if_neg he] at h0 hsub;have he:(qc7 ts.visible t).2.2=0:=by simpa using he
 rw [stR_eq];by_cases h8:t.op=8
 ·
  rw [if_pos h8,stI_eq];rw [if_neg (by omega),if_neg (by omega),if_neg (by omega),if_neg (by omega),if_neg (by omega),if_neg (by omega),if_pos h8];exact h.sim.ab _
 rw [if_neg h8];have hea:=pre_ev hV hC (G:=G) (vis:=ts.visible) (r:=4097) (p:=1) (hgo.1 h8) (okS_a hok h8) h
 -- the type of the first operand
 have hta:(ofE ts.visible t.a).2=0:=by
  unfold qc7 at he;rw [if_neg h8] at he;by_cases h1:(ofE ts.visible t.a).2=0
  · exact h1
  · rw [if_neg (fun g=>h1 g.1)] at he;exact he
 have hea1:ofE ts.visible t.a=((ofE ts.visible t.a).1,0):=by rw [← hta]
 have ho1:(qc7 ts.visible t).1=(ofE ts.visible t.a).1:=by
  unfold qc7;rw [if_neg h8];split<;>rfl
 rcases hx:evE C t.a s with ⟨z | u,s1⟩
 ·
  have hD:=hea.1 z s1 hx;rw [if_pos (by rw [hD.st];exact hD.ne)];have:stI C t s=(.error z,s1):=by
   by_cases h6:t.op=6
   · rw [stI_6 C h6,hx]
   ·
    rw [stI_eq,hx,if_neg h6,if_neg h8];split<;>try rfl
    split<;>try rfl
    split<;>try rfl
    split<;>try rfl
    split<;>try rfl
    omega
  rw [this];exact hD
 obtain ⟨eu,hP,oku,rngu,htu⟩:=hea.2 u s1 hx;have hku:=htu _ hvis hea1;rw [if_neg (by rw [hP.sim.st];simp),eu];by_cases h1:t.op=1∨t.op=2
 ·
  rw [if_pos h1];have hst:stI C t s=(.ok (),{ s1 with vars:=qcj s1.vars t.name u }):=by
   rw [stI_eq,if_pos h1,hx]
  rw [hst];have hG:∀ ty,qbt G t.name=some ty→u.k=ty:=fun ty hg=>by
   rcases h1 with h1 | h1
   ·
    rw [if_pos h1] at hsub;have:=hsub t.name (qc7 ts.visible t).1 (by simp only [TS.decl];rw [qch,if_pos rfl]);rw [this] at hg;cases hg;rw [hku.1,ho1]
   ·
    rw [if_neg (by omega),if_pos h1] at h0;rcases hv:qbt ts.visible t.name with _ | ty'
    · rw [hv] at h0;cases h0
    ·
     rw [hv] at h0;simp only at h0;have:=hvis _ _ hv;rw [this] at hg;cases hg;by_cases hl:qbt ts.loops t.name=some true
     · rw [if_pos hl] at h0;cases h0
     ·
      rw [if_neg hl] at h0;by_cases hy:ty≠(qc7 ts.visible t).1
      · rw [if_pos hy] at h0;cases h0
      · rw [hku.1,← ho1];simpa using Eq.symm (by simpa using hy)
  exact ⟨(hP.inv.vars rngu t.name).mono (Nat.zero_le _) (Nat.zero_le _),vM_set hV hC t.name hP.vm oku,tyS_set hP.ty hG,hP.sim.set t.name u⟩
 rw [if_neg h1];have hn1:¬ t.op=1:=fun e=>h1 (.inl e);have hn2:¬ t.op=2:=fun e=>h1 (.inr e);rw [if_neg hn1,if_neg hn2] at h0 hsub;by_cases h4:t.op=4
 ·
  rw [if_pos h4];rw [if_neg (by omega),if_pos h4] at h0;have hk2:u.k=2:=by
   rw [hku.1,← ho1];by_cases hy:(qc7 ts.visible t).1≠2
   · rw [if_pos hy] at h0;cases h0
   · simpa using hy
  refine post_store hV hC (k:=u.s) (v:=V.nil) ?_ hP okW_nil rng_nil rfl;rw [stI_eq,if_neg h1,if_neg (by omega),if_pos h4,hx];simp only [hk2,if_true]
 rw [if_neg h4];by_cases h7:t.op=7
 ·
  rw [if_pos h7];rw [if_neg (by omega),if_neg h4,if_pos h7] at h0;have hk3:u.k=1∨u.k=2:=by
   have:u.k≠3:=by
    rw [hku.1,← ho1];by_cases hy:(qc7 ts.visible t).1=3
    · rw [if_pos hy] at h0;cases h0
    · exact hy
   rw [hku.1] at this ⊢;have:=hku.2;omega
  have hst:stI C t s=emitS u s1:=by
   rw [stI_eq,if_neg h1,if_neg (by omega),if_neg h4,if_neg (by omega),if_neg (by omega),if_pos h7,hx];simp only [hk3,if_true]
  rw [hst];exact post_emit hV hC hP
 rw [if_neg h7];by_cases h5:t.op=5
 ·
  rw [if_pos h5];rw [if_neg (by omega),if_neg h4,if_neg h7,if_pos h5] at h0 hsub;rw [if_neg (by omega),List.nil_append] at hf;by_cases h6:(qc7 ts.visible t).1≠3
  · rw [if_pos h6] at h0;simp at h0
  rw [if_neg h6] at h0 hsub;have hk3:u.k=3:=by rw [hku.1,← ho1];simpa using h6
  by_cases h9:(qca t.body (qdf t.body) ts).1≠0
  · rw [if_pos h9] at h0;exact (h9 h0).elim
  rw [if_neg h9] at h0 hsub;have hb1:(qdf t.body ts).1=0:=by
   unfold qca at h9;by_cases hb:(qdf t.body ts).1≠0
   · rw [if_pos hb] at h9;exact (h9 hb).elim
   · simpa using hb
  have g1:=TGo.blk (l:=t.body) (fun g=>go_seq t.body ts hT hf.left g) (by simpa using h9);have hb2:(qdf t.els (qca t.body (qdf t.body) ts).2).1=0:=by
   obtain ⟨X,hX⟩:∃ X,X=(qca t.body (qdf t.body) ts).2:=⟨_,rfl⟩
   rw [← hX] at h0 ⊢;unfold qca at h0;by_cases hb:(qdf t.els X).1≠0
   · rw [if_pos hb] at h0;exact (hb h0).elim
   · simpa using hb
  have g2:=TGo.blk (l:=t.els) (fun g=>go_seq t.els _ g1.ok (hf.right g1) g) h0;have s1':subV (qdf t.body ts).2.all G:=by
   have:(qca t.body (qdf t.body) ts).2.all=(qdf t.body ts).2.all:=by unfold qca;rw [if_neg (by simp [hb1])]
   rw [← this];exact g2.mono.trans hsub
  have s2':subV (qdf t.els (qca t.body (qdf t.body) ts).2).2.all G:=by
   have:(qca t.els (qdf t.els) (qca t.body (qdf t.body) ts).2).2.all=(qdf t.els (qca t.body (qdf t.body) ts).2).2.all:=by
    obtain ⟨X,hX⟩:∃ X,X=(qca t.body (qdf t.body) ts).2:=⟨_,rfl⟩
    rw [← hX] at hb2 ⊢;unfold qca;rw [if_neg (by simp [hb2])]
   rw [← this];exact hsub
  have hst:stI C t s=if u.n=1 then qdk C t.body s1 else qdk C t.els s1:=by
   rw [stI_eq,if_neg h1,if_neg (by omega),if_neg h4,if_pos h5,hx];simp only [hk3,if_true]
  rw [hst];split
  · exact hB ts s1 _ hT hf.left hb1 s1' (hP.mono (Nat.zero_le _) (Nat.zero_le _))
  · exact hE _ s1 _ g1.ok (hf.right g1) hb2 s2' (hP.mono (Nat.zero_le _) (Nat.zero_le _))
 rw [if_neg h5];have h36:t.op=3∨t.op=6:=by omega
 have heb:=pre_ev hV hC (G:=G) (vis:=ts.visible) (r:=2) (p:=1) (hgo.2.1 h36) (okS_b hok h36) hP;have htb:(ofE ts.visible t.b).2=0:=by
  unfold qc7 at he;rw [if_neg h8,if_pos ⟨hta,h36⟩] at he;exact he
 have heb1:ofE ts.visible t.b=((ofE ts.visible t.b).1,0):=by rw [← htb]
 have ho2:(qc7 ts.visible t).2.1=(ofE ts.visible t.b).1:=by
  unfold qc7;rw [if_neg h8,if_pos ⟨hta,h36⟩]
 rcases hy:evE C t.b s1 with ⟨z | v,s2⟩
 ·
  have hD:=heb.1 z s2 hy;rw [if_pos (by rw [hD.st];exact hD.ne)];have:stI C t s=(.error z,s2):=by
   rcases h36 with h3 | h6
   ·
    rw [stI_eq,if_neg h1,if_pos h3,hx];simp only [hy]
   ·
    rw [stI_6 C h6,hx];simp only [hy]
  rw [this];exact hD
 obtain ⟨ev,hQ,okv,rngv,htv⟩:=heb.2 v s2 hy;have hkv:=htv _ hvis heb1;rw [if_neg (by rw [hQ.sim.st];simp),ev];by_cases h3:t.op=3
 ·
  rw [if_pos h3];rw [if_pos h3] at h0;have hk:u.k=2∧(v.k=1∨v.k=2):=by
   by_cases hz:(qc7 ts.visible t).1≠2∨(qc7 ts.visible t).2.1=3
   · rw [if_pos hz] at h0;cases h0
   ·
    rw [hku.1,← ho1,hkv.1];have:=hkv.2;rw [ho2] at hz;omega
  refine post_store hV hC (k:=u.s) (v:=v) ?_ hQ (okX_W okv hk.2) rngv rfl;rw [stI_eq,if_neg h1,if_pos h3,hx];simp only [hy];rw [if_pos hk]
 have h6:t.op=6:=by omega
 rw [if_neg h3,if_neg h4,if_neg h7,if_neg h5,if_pos h6] at h0 hsub;rw [if_neg h3];rw [if_pos (.inr h6)] at hf;by_cases hz:(qc7 ts.visible t).1≠1∨(qc7 ts.visible t).2.1≠1
 · rw [if_pos hz] at h0;simp at h0
 rw [if_neg hz] at h0 hsub;have hk1:u.k=1∧v.k=1:=by rw [hku.1,← ho1,hkv.1,← ho2];omega
 have hmx:=okS_max hok h6;have g0:=TGo.set hT (hf.2 t.name (by simp)) 1 (qcj ts.loops t.name true);have hfb:=(hf.right g0).left;have hb1:(qdf t.body ⟨qcj ts.visible t.name 1,qcj ts.loops t.name true,qcj ts.all t.name 1⟩).1=0:=by
  simp only at h0;unfold qca at h0;by_cases hb:(qdf t.body ⟨qcj ts.visible t.name 1,qcj ts.loops t.name true,qcj ts.all t.name 1⟩).1≠0
  · rw [if_pos hb] at h0;exact (hb h0).elim
  · simpa using hb
 have s1':subV (qdf t.body ⟨qcj ts.visible t.name 1,qcj ts.loops t.name true,qcj ts.all t.name 1⟩).2.all G:=by
  simp only at hsub;unfold qca at hsub;rw [if_neg (by simp [hb1])] at hsub;exact hsub
 have g1:=go_seq t.body _ g0.ok hfb hb1;have hst:stI C t s=if tooMany u.n v.n t.max then (.error (ab 1005),s2) else qcy (qdk C t.body) t.name v.n 16386 u.n s2:=by
  rw [stI_6 C h6,hx];simp only [hy];rw [if_pos hk1]
 rw [hst];have hmi:=many_iff (mx:=t.max) rngu.1 rngv.1 hmx.1 hmx.2;by_cases hm:tooMany u.n v.n t.max
 ·
  rw [if_pos hm,if_pos (hmi.1 hm)];exact hQ.sim.ab _
 ·
  rw [if_neg hm,if_neg (fun g=>hm (hmi.2 g))];have hfw:=few rngu.1 rngv.1 hmx.1 hmx.2 hm;have hfw2:v.n - u.n≤16:=by have:=hmx.2;have:=hmx.1;omega
  refine sim_loop (G:=G) (body:=qdk C t.body) (bodyR:=blkR C t.body) rngv.1 (fun ty hg=>?_) (fun s m hp=>?_) 16386 _ u.n s2 _ rngu.1 (by omega) (by omega) (hQ.mono (Nat.zero_le _) (Nat.zero_le _))
  ·
   have:=(g1.mono.trans s1') t.name 1 (by simp only;rw [qch,if_pos rfl]);rw [this] at hg;cases hg;rfl
  · exact hB _ s m g0.ok hfb hb1 s1' (hp.mono (Nat.zero_le _) (Nat.zero_le _))
mutual
theorem sim_st:∀ (t:St) (d:Nat) (ts:TS) (s:MS) (m:RM),okS t d→goS t→TOk ts→fresh (nmS t) ts→(stT t ts).1=0→subV (stT t ts).2.all G→Pre G 8192 1 s m→Post G (stI C t s) (stR C t m)
 | .mk op name mx a b body els,d,ts,s,m,hok,hg,hT,hf,h0,hsub,h=>by
  have hok':=(qcl _ _).1 hok;have hg':=(goS_iff _).1 hg;exact sim_step hV hC hok hg hT hf h0 hsub h
   (fun ts s m h1 h2 h3 h4 h5=>sim_blk body (d+1) ts s m hok'.2.1 hg'.2.2.1 h1 h2 h3 h4 h5)
   (fun ts s m h1 h2 h3 h4 h5=>sim_blk els (d+1) ts s m hok'.2.2 hg'.2.2.2 h1 h2 h3 h4 h5)
theorem sim_blk:∀ (l:List St) (d:Nat) (ts:TS) (s:MS) (m:RM),okL l d→(∀ x∈l,goS x)→TOk ts→fresh (nmL l) ts→(qdf l ts).1=0→subV (qdf l ts).2.all G→Pre G 0 0 s m→Post G (qdk C l s) (blkR C l m)
 | [],d,ts,s,m,_,_,_,_,_,_,h=>by rw [qdk,blkR];exact h
 | t::l,d,ts,s,m,hok,hg,hT,hf,h0,hsub,h=>by
  obtain ⟨t1,t2⟩:=pre_tick h;rw [qdf] at h0 hsub;rw [nmL] at hf;have he:(stT t ts).1=0:=by
   by_cases he:(stT t ts).1≠0
   · rw [if_pos he] at h0;exact (he h0).elim
   · simpa using he
  rw [if_neg (by simp [he])] at h0 hsub;have g1:=go_st t ts hT hf.left he;have g2:=go_seq l _ g1.ok (hf.right g1) h0;rw [qdk,blkR,if_neg (by rw [h.sim.st];simp)];rcases hx:qdq s with ⟨z | u,s1⟩
  ·
   obtain ⟨e1,e2⟩:=t1 _ _ hx;simp only;rw [if_neg e1,blkR_dead C l e1];exact e2
  ·
   obtain ⟨e1,e2⟩:=t2 _ _ hx;simp only;rw [if_pos e1];have hS:=sim_st t d ts s1 (qdr m) (hok t (by simp)) (hg t (by simp)) hT hf.left he (g2.mono.trans hsub) e2;rcases hy:stI C t s1 with ⟨z | u',s2⟩
   ·
    rw [hy] at hS;have hS:Dead z s2 _:=hS;simp only;rw [blkR_dead C l (by rw [hS.st];exact hS.ne)];exact hS
   ·
    rw [hy] at hS;have hS:Pre G 0 0 s2 _:=hS;exact sim_blk l d _ s2 _ (fun x hx=>hok x (by simp [hx])) (fun x hx=>hg x (by simp [hx])) g1.ok (hf.right g1) h0 hsub hS
end
end
section
variable {σ τ:Type} (fS:σ→St→Nat→σ) (fR:σ→Ex→σ) (gS:τ→St→Nat→τ) (gR:τ→Ex→τ)
theorem firstW_cnt (e:Ex) (x:Nat×σ) (y:Nat×τ) (h:x.1=y.1):(qbu fR e x).1=(qbu gR e y).1:=by
 unfold qbu;rw [h];split
 · exact h
 · rfl
mutual
theorem stW_cnt:∀ (s:St) (d:Nat) (x:Nat×σ) (y:Nat×τ),x.1=y.1→(stW fS fR s d x).1=(stW gS gR s d y).1
 | .mk _ _ _ a b body els,d,x,y,h=>by
  rw [stW,stW];exact blkW_cnt els _ _ _ (blkW_cnt body _ _ _ (firstW_cnt fR gR b _ _ (firstW_cnt fR gR a _ _ h)))
theorem blkW_cnt:∀ (l:List St) (d:Nat) (x:Nat×σ) (y:Nat×τ),x.1=y.1→(blkW fS fR l d x).1=(blkW gS gR l d y).1
 | [],d,x,y,h=>by rw [blkW,blkW];exact h
 | s::l,d,x,y,h=>by
  rw [blkW,blkW,h];split
  · exact h
  · exact blkW_cnt l d _ _ (stW_cnt s d _ _ rfl)
end
end
mutual
theorem stW_names:∀ (s:St) (d:Nat) (x:Nat×List qac),(stW nameS qby s d x).1≠0→(stW nameS qby s d x).2=x.2++(nmL s.body++nmL s.els)
 | .mk _ _ _ a b body els,d,x,h=>by
  rw [stW] at h ⊢;have hl:=blkW_le nameS qby els (d+1) (blkW nameS qby body (d+1) (qbu qby b (qbu qby a x)));rw [blkW_names els (d+1) _ h,blkW_names body (d+1) _ (by omega),firstW_keep,firstW_keep];simp [St.body,St.els]
theorem blkW_names:∀ (l:List St) (d:Nat) (x:Nat×List qac),(blkW nameS qby l d x).1≠0→(blkW nameS qby l d x).2=x.2++nmL l
 | [],d,x,h=>by rw [blkW,nmL];simp
 | s::l,d,x,h=>by
  rw [blkW] at h ⊢;split
  · rename_i hz;rw [if_pos hz] at h;exact (h hz).elim
  ·
   rename_i hz;rw [if_neg hz] at h;have hl:=blkW_le nameS qby l d (stW nameS qby s d (x.1 - 1,nameS x.2 s d));rw [blkW_names l d _ h,stW_names s d _ (by omega),nmL,nmS_eq];unfold nameS;split<;>simp
end
theorem valid_left {p:Proc} (h:qck p=0):(blkW valS qby p.body 1 (401,(0:Int))).1≠0:=by
 unfold qck at h;split at h
 · contradiction
 split at h
 · contradiction
 simp only at h;split at h
 · contradiction
 ·
  rename_i h1;exact fun h2=>h1 ⟨h,h2⟩
theorem namesP_eq {p:Proc} (h:qck p=0):qd6 p=p.params.map (·.name)++nmL p.body:=by
 unfold qd6;have hc:=blkW_cnt nameS qby valS qby p.body 1 (401,p.params.map (·.name)) (401,(0:Int)) rfl
 exact blkW_names p.body 1 _ (by rw [hc];exact valid_left h)
theorem dupM_iff:∀ (l:List qac) (met:List (qac×Bool)),(∀ q∈met,q.2=true)→(dupM met l=false↔l.Nodup∧∀ x∈l,x∉qcc met)
 | [],met,_=>by simp [dupM]
 | x::l,met,hm=>by
  have hs:∀ q∈qcj met x true,q.2=true:=fun q hq=>by
   rcases kSet_mem hq with rfl | hq
   · rfl
   · exact hm q hq
  rw [dupM,Bool.or_eq_false_iff,dupM_iff l _ hs,List.nodup_cons];have hx:(qbt met x).getD false=false↔x∉qcc met:=by
   rw [← qc8];rcases hg:qbt met x with _ | v
   · simp
   ·
    have:=hm _ (kGet_mem hg);simp only at this;simp [this]
  rw [hx];simp only [qcv,List.mem_cons,forall_eq_or_imp,not_or];constructor
  ·
   rintro ⟨h1,h2,h3⟩;exact ⟨⟨fun hm=>(h3 x hm).1 rfl,h2⟩,h1,fun y hy=>(h3 y hy).2⟩
  ·
   rintro ⟨⟨h1,h2⟩,h3,h4⟩;exact ⟨h3,h2,fun y hy=>⟨fun e=>h1 (e▸hy),h4 y hy⟩⟩
def qcs:List Param→List V→List Pr→List Pr
 | x::l,v::r,m=>qcs l r (setR m ⟨x.name,v⟩)
 | _,_,m=>m
abbrev rm0 (p:Proc) (args:List V):RM:=⟨qcs p.params args [],[],0,0,[],[],[],em,0⟩
def doneR (m:RM):Eff:=if m.st≠0 then ⟨m.st,m.code,[],m.reads,m.puts,[],m.miss,m.steps⟩ else ⟨1,m.code,m.out,m.reads,m.puts,m.own,m.miss,m.steps⟩
def runR (fmt:Int→qac) (p:Proc) (args:List V) (st:List Pr) (ft:Foot):Eff :=
 if qbx p≠0∨qc5 p args≠0∨qa0 st=false∨qcd ft.all ft.reads ft.writes=false then wrongE
 else doneR (blkR (cfgR fmt st ft) p.body (rm0 p args))
theorem sim_args:∀ (ps:List Param) (vs:List V) (a:List (qac×V)) (b:List Pr),(∀ k,qbt a k=if hasP b k=true then some (qeh b k) else none)→∀ k,qbt (qds ps vs a) k=if hasP (qcs ps vs b) k=true then some (qeh (qcs ps vs b) k) else none
 | [],vs,a,b,h=>by cases vs<;>exact h
 | x::l,[],a,b,h=>h
 | x::l,v::r,a,b,h=>by
  rw [qds,qcs];refine sim_args l r _ _ fun k=>?_;rw [qch,(setR_map _ _ _).1,(setR_map _ _ _).2];by_cases hx:x.name=k
  · simp [hx]
  · simp [hx,h k]
theorem ty_args:∀ (ps:List Param) (vs:List V) (a:List (qac×V)) (ts:TS),argsOk ps vs=true→vs.length=ps.length→(∀ k v ty,qbt a k=some v→qbt ts.visible k=some ty→v.k=ty)→(∀ k v,qbt a k=some v→∃ ty,qbt ts.visible k=some ty) →
  (∀ k v ty,qbt (qds ps vs a) k=some v→qbt (declP ps ts).visible k=some ty→v.k=ty)∧∀ k v,qbt (qds ps vs a) k=some v→∃ ty,qbt (declP ps ts).visible k=some ty
 | [],vs,a,ts,_,_,h,h'=>by
  cases vs<;>exact ⟨h,h'⟩
 | x::l,[],a,ts,_,hl,h,h'=>by cases hl
 | x::l,v::r,a,ts,ho,hl,h,h'=>by
  simp only [argsOk,Bool.and_eq_true] at ho;rw [qds];have hd:declP (x::l) ts=declP l (ts.decl x.name x.ty):=rfl;rw [hd];have hk:v.k=x.ty:=by
   have:=ho.1;unfold argOk at this;simp only [Bool.or_eq_true,Bool.and_eq_true,decide_eq_true_eq] at this;omega
  refine ty_args l r _ _ ho.2 (by simpa using hl) (fun k w ty hw hg=>?_) fun k w hw=>?_
  ·
   simp only [TS.decl] at hg;rw [qch] at hw hg;split at hw
   · rename_i e;rw [if_pos e] at hg;cases hw;cases hg;exact hk
   · rename_i e;rw [if_neg e] at hg;exact h k w ty hw hg
  ·
   simp only [TS.decl];rw [qch] at hw ⊢;split at hw
   · rename_i e;rw [if_pos e];exact ⟨_,rfl⟩
   · rename_i e;rw [if_neg e];exact h' k w hw
theorem go_params:∀ (ps:List Param) (ts:TS),TOk ts→fresh (ps.map (·.name)) ts→TGo (ps.map (·.name)) ts (declP ps ts)
 | [],ts,h,_=>.refl h _
 | x::l,ts,h,hf=>by
  have hd:declP (x::l) ts=declP l (ts.decl x.name x.ty):=rfl;rw [hd];have hf':fresh ([x.name]++l.map (·.name)) ts:=hf
  have g:=TGo.set h (hf'.2 x.name (by simp)) x.ty ts.loops;exact g.trans (go_params l _ g.ok (hf'.right g))
theorem runR_eq {fmt:Int→qac} {p:Proc} {args:List V} {st:List Pr} {ft:Foot} (hI:RunIn fmt p args st):runR fmt p args st ft=runS fmt p args st ft:=by
 by_cases h:runOk p args st ft
 ·
  have hr:=(qb1 _ _ _ _).1 h;rw [qdy h];unfold runR;rw [if_neg h];have hc:=hr.1;have hvp:=cost_valid hc;have hty:qc0 p=0:=by
   have:=cost_det hc;unfold detErr at this;split at this
   · contradiction
   · rename_i ht;simpa using ht
  unfold qc0 at hty;rw [if_neg (by simp [hvp])] at hty;split at hty
  · contradiction
  split at hty
  · contradiction
  rename_i hdup;have hdup:dupM [] (qd6 p)=false:=by simpa using hdup
  rw [namesP_eq hvp] at hdup;have hnd:=((dupM_iff _ [] (by simp)).1 hdup).1;have hF:fresh (p.params.map (·.name)++nmL p.body) ⟨[],[],[]⟩:=⟨hnd,by simp [qcc]⟩
  have hT0:TOk ⟨[],[],[]⟩:=⟨by simp [qcc],.refl _⟩
  have gP:=go_params p.params ⟨[],[],[]⟩ hT0 hF.left;have hfB:=hF.right gP;have hb1:(qdf p.body (declP p.params ⟨[],[],[]⟩)).1=0:=by
   unfold blkT qca at hty;by_cases hb:(qdf p.body (declP p.params ⟨[],[],[]⟩)).1≠0
   · rw [if_pos hb] at hty;exact (hb hty).elim
   · simpa using hb
  have gB:=go_seq p.body _ gP.ok hfB hb1;have hao:=(argsErr_ok hr.2.1)
  have haok:argsOk p.params args=true:=by
   have:=hr.2.1;unfold qc5 at this;split at this
   · contradiction
   ·
    split at this
    · assumption
    · contradiction
  have hta:=ty_args p.params args [] ⟨[],[],[]⟩ haok hao.1 (by simp [qbt]) (by simp [qbt]);obtain ⟨G,hG⟩:∃ G,G=(qdf p.body (declP p.params ⟨[],[],[]⟩)).2.all:=⟨_,rfl⟩
  have hsub:subV (declP p.params ⟨[],[],[]⟩).visible G:=by rw [hG];exact gP.ok.sub.trans gB.mono
  have hpre:Pre G 0 0 (ms0 p args) (rm0 p args):=by
   refine ⟨inv0 hI,vM0 hr.2.1,fun k v ty hv hg=>?_,⟨fun k=>?_,by simp [qcr,anyL,qbt],rfl,rfl,rfl,rfl,rfl,rfl,rfl,rfl⟩⟩
   ·
    obtain ⟨ty',ht'⟩:=hta.2 k v hv;have:=hsub _ _ ht';rw [this] at hg;cases hg;exact hta.1 k v _ hv ht'
   · exact sim_args p.params args [] [] (by simp [qbt,hasP,anyL]) k
  have hP:=sim_blk (C:=cfgR fmt st ft) (G:=G) (vC_of hI hr.2.2.1) (fun q hq=>hI.st q hq) p.body 1 _ _ _ (cost_okL hc) (cost_goS hc hI.body) gP.ok hfB hb1 (by rw [hG];exact .refl _) hpre;have hfit:=fit_run (fmt:=fmt) (p:=p) (args:=args) (st:=st) (ft:=ft) p.body;rcases hx:qdk (cfgR fmt st ft) p.body (ms0 p args) with ⟨z | u,s⟩
  ·
   rw [hx] at hP;have hP:Dead z s _:=hP;unfold doneR;rw [if_pos (by rw [hP.st];exact hP.ne),hP.st,hP.code,hP.reads,hP.puts,hP.miss,hP.steps];rfl
  ·
   rw [hx] at hP hfit;have hP:Pre G 0 0 s _:=hP;have hS:=hP.sim;unfold doneR;rw [if_neg (by rw [hS.st];simp),hS.code,hS.out,hS.reads,hS.puts,hS.miss,hS.steps];have hasc:qec s.puts:=hfit.ap (by simp);have:(blkR (cfgR fmt st ft) p.body (rm0 p args)).own=s.puts.map fun k=>(⟨k,(qbt s.own k).getD V.nil⟩:Pr):=by
    rw [← hS.keys];unfold qcp;rw [List.map_map];refine (List.map_id _).symm.trans (List.map_congr_left fun q hq=>?_);have hk:q.key∈s.puts:=by rw [← hS.keys];exact List.mem_map.2 ⟨q,hq,rfl⟩
    simp only [Function.comp,id];rw [hS.own,if_pos (hasK_iff.2 hk),Option.getD_some,getP_in (by rw [hS.keys];exact hasc) hq]
   simp only [doneS,this]
 ·
  rw [qd4 h];unfold runR;rw [if_pos (Decidable.not_not.1 h)]
end Go.Cw

namespace Go.Cw
open Go Go.Abs
abbrev Ex.z:Ex:=.mk 0 0 em []
abbrev St.z:St:=.mk 0 em 0 Ex.z Ex.z [] []
structure Vt where
 isS:Bool
 t:St
 d:Nat
 e:Ex
 root:Bool
def Vt.c (v:Vt):List AV:=[Bo v.isS,I v.t.op,S v.t.name,I v.t.max,I v.t.a.op,I v.t.a.n,S v.t.a.s,.slice (v.t.a.args.map Ex.c),I v.t.b.op,I v.t.b.n,S v.t.b.s,.slice (v.t.b.args.map Ex.c),.slice (v.t.body.map St.c),.slice (v.t.els.map St.c),I v.d,I v.e.op,I v.e.n,S v.e.s,.slice (v.e.args.map Ex.c),Bo v.root]
def Vt.ofS (t:St) (d:Nat):Vt:=⟨true,t,d,Ex.z,false⟩
def Vt.ofE (e:Ex) (r:Bool):Vt:=⟨false,St.z,0,e,r⟩
mutual
def wkE:Ex→Bool→List Vt→List Vt
 | .mk op n s args,r,out=>if 400<out.length then out else wkEL args (out++[Vt.ofE (.mk op n s args) r])
def wkEL:List Ex→List Vt→List Vt
 | [],out=>out
 | e::l,out=>if out.length≤400 then wkEL l (wkE e false out) else out
end
theorem wkE_eq (e:Ex) (r:Bool) (out:List Vt):wkE e r out=if 400<out.length then out else wkEL e.args (out++[Vt.ofE e r]):=by
 cases e;rw [wkE];rfl
def wkF (e:Ex) (out:List Vt):List Vt:=if absE e=true then out else wkE e true out
mutual
def wkS:St→Nat→List Vt→List Vt
 | .mk _ _ _ a b body els,d,out=>wkB els (d+1) (wkB body (d+1) (wkF b (wkF a out)))
def wkB:List St→Nat→List Vt→List Vt
 | [],_,out=>out
 | t::l,d,out=>if out.length≤400 then wkB l d (wkS t d (out++[Vt.ofS t d])) else out
end
theorem wkS_eq (t:St) (d:Nat) (out:List Vt):wkS t d out=wkB t.els (d+1) (wkB t.body (d+1) (wkF t.b (wkF t.a out))):=by
 cases t;rw [wkS];rfl
abbrev wkP (p:Proc):List Vt:=wkB p.body 1 []
section
variable {σ:Type} (fS:σ→St→Nat→σ) (fR:σ→Ex→σ)
def qdm (s:σ) (l:List Vt):σ:=l.foldl (fun s v=>if v.isS then fS s v.t v.d else if v.root then fR s v.e else s) s
theorem foldV_snoc (s:σ) (l:List Vt) (v:Vt):qdm fS fR s (l++[v])=if v.isS then fS (qdm fS fR s l) v.t v.d else if v.root then fR (qdm fS fR s l) v.e else qdm fS fR s l:=by
 simp [qdm,List.foldl_append]
theorem foldV_S (s:σ) (l:List Vt) (t:St) (d:Nat):qdm fS fR s (l++[Vt.ofS t d])=fS (qdm fS fR s l) t d:=by rw [foldV_snoc];rfl
theorem foldV_E (s:σ) (l:List Vt) (e:Ex):qdm fS fR s (l++[Vt.ofE e false])=qdm fS fR s l:=by rw [foldV_snoc];rfl
theorem foldV_R (s:σ) (l:List Vt) (e:Ex):qdm fS fR s (l++[Vt.ofE e true])=fR (qdm fS fR s l) e:=by rw [foldV_snoc];rfl
mutual
theorem wkE_fold:∀ (e:Ex) (out:List Vt) (s:σ),out.length≤401→(wkE e false out).length≤401∧exW e (401 - out.length)=401 - (wkE e false out).length∧qdm fS fR s (wkE e false out)=qdm fS fR s out
 | .mk op n x args,out,s,h=>by
  rw [wkE,exW];by_cases h1:400<out.length
  ·
   rw [if_pos h1,if_pos (by omega)];exact ⟨h,by omega,rfl⟩
  ·
   rw [if_neg h1,if_neg (by omega)];have:=wkEL_fold args (out++[Vt.ofE (.mk op n x args) false]) s (by simp;omega);refine ⟨this.1,?_,this.2.2.trans (foldV_E _ _ _ _ _)⟩;rw [← this.2.1];congr 1;simp;omega
theorem wkEL_fold:∀ (l:List Ex) (out:List Vt) (s:σ),out.length≤401→(wkEL l out).length≤401∧exWL l (401 - out.length)=401 - (wkEL l out).length∧qdm fS fR s (wkEL l out)=qdm fS fR s out
 | [],out,s,h=>by rw [wkEL,exWL];exact ⟨h,rfl,rfl⟩
 | e::l,out,s,h=>by
  rw [wkEL,exWL];by_cases h1:out.length≤400
  ·
   rw [if_pos h1];have h2:=wkE_fold e out s h;have h3:=wkEL_fold l (wkE e false out) s h2.1;rw [h2.2.1];exact ⟨h3.1,h3.2.1,h3.2.2.trans h2.2.2⟩
  ·
   rw [if_neg h1];have e0:401 - out.length=0:=by omega
   rw [e0];have:=exW_le e 0;have h4:exW e 0=0:=by omega
   have:=exWL_le l 0;rw [h4];exact ⟨h,by omega,rfl⟩
end
theorem wkF_fold (e:Ex) (out:List Vt) (s:σ) (h:out.length≤401):(wkF e out).length≤401∧qbu fR e (401 - out.length,qdm fS fR s out)=(401 - (wkF e out).length,qdm fS fR s (wkF e out)):=by
 unfold wkF qbu;by_cases ha:absE e=true
 · rw [if_pos ha,if_pos (.inr ha)];exact ⟨h,rfl⟩
 ·
  rw [if_neg ha];by_cases h1:400<out.length
  ·
   rw [if_pos (.inl (by simp only;omega)),wkE_eq,if_pos h1];exact ⟨h,rfl⟩
  ·
   have hn:¬ (401 - out.length=0∨absE e=true):=by rintro (g | g);omega;exact ha g
   dsimp only;rw [if_neg hn,wkE_eq,if_neg h1];have:=wkEL_fold fS fR e.args (out++[Vt.ofE e true]) s (by simp;omega);refine ⟨this.1,?_⟩;rw [this.2.2,foldV_R,← this.2.1,exW_eq,if_neg (show ¬ 401 - out.length=0 by omega)];congr 2;simp;omega
mutual
theorem wkS_fold:∀ (t:St) (d:Nat) (out:List Vt) (s:σ),out.length≤401→(wkS t d out).length≤401∧stW fS fR t d (401 - out.length,qdm fS fR s out)=(401 - (wkS t d out).length,qdm fS fR s (wkS t d out))
 | .mk _ _ _ a b body els,d,out,s,h=>by
  rw [wkS,stW];have h1:=wkF_fold fS fR a out s h;have h2:=wkF_fold fS fR b _ s h1.1;have h3:=wkB_fold body (d+1) _ s h2.1;have h4:=wkB_fold els (d+1) _ s h3.1;rw [h1.2,h2.2,h3.2,h4.2];exact ⟨h4.1,rfl⟩
theorem wkB_fold:∀ (l:List St) (d:Nat) (out:List Vt) (s:σ),out.length≤401→(wkB l d out).length≤401∧blkW fS fR l d (401 - out.length,qdm fS fR s out)=(401 - (wkB l d out).length,qdm fS fR s (wkB l d out))
 | [],d,out,s,h=>by rw [wkB,blkW];exact ⟨h,rfl⟩
 | t::l,d,out,s,h=>by
  rw [wkB,blkW];by_cases h1:out.length≤400
  ·
   rw [if_pos h1,if_neg (by simp only;omega)];have h2:=wkS_fold t d (out++[Vt.ofS t d]) s (by simp;omega);have h3:=wkB_fold l d _ s h2.1;rw [← h3.2,← h2.2,foldV_S];refine ⟨h3.1,?_⟩;simp only [List.length_append,List.length_singleton];congr 3
  ·
   rw [if_neg h1,if_pos (by simp only;omega)];exact ⟨h,rfl⟩
end
theorem wkP_fold (p:Proc) (s:σ):(wkP p).length≤401∧blkW fS fR p.body 1 (401,s)=(401 - (wkP p).length,qdm fS fR s (wkP p)):=wkB_fold fS fR p.body 1 [] s (by simp)
end
def errV:List Vt→Int
 | []=>0
 | v::l=>if v.isS=true∧qbl v.t v.d≠0 then qbl v.t v.d else errV l
theorem foldV_val:∀ (l:List Vt) (s:Int),qdm valS qby s l=if s≠0 then s else errV l
 | [],s=>by simp [qdm,errV]
 | v::l,s=>by
  have:qdm valS qby s (v::l)=qdm valS qby (if v.isS then valS s v.t v.d else if v.root then qby s v.e else s) l:=rfl;rw [this,foldV_val l,errV];cases hv:v.isS
  · simp [qby]
  ·
   simp only [valS,if_true,true_and];by_cases h:s=0
   ·
    simp only [h,if_true];by_cases h2:qbl v.t v.d=0<;>simp [h2]
   · simp [h]
theorem validP_walk (p:Proc):qck p=if nameOk p.name=false then 7 else if paramsE p.params≠0 then paramsE p.params else if errV (wkP p)≠0 then errV (wkP p) else if 400<(wkP p).length then 2 else 0:=by
 unfold qck;have h:=wkP_fold valS qby p (0:Int);rw [h.2,foldV_val];simp only [ne_eq,not_true_eq_false,if_false];split
 · rfl
 split
 · rfl
 by_cases h1:errV (wkP p)=0
 ·
  simp only [h1,not_true_eq_false,if_false];by_cases h2:400<(wkP p).length
  · rw [if_pos h2,if_pos ⟨trivial,by omega⟩]
  · rw [if_neg h2,if_neg (by omega)]
 · simp only [h1,not_false_eq_true,if_true,false_and,if_false]
def nameV:List Vt→List qac
 | []=>[]
 | v::l=>if v.isS=true∧(v.t.op=1∨v.t.op=6) then v.t.name::nameV l else nameV l
theorem foldV_name:∀ (l:List Vt) (s:List qac),qdm nameS qby s l=s++nameV l
 | [],s=>by simp [qdm,nameV]
 | v::l,s=>by
  have:qdm nameS qby s (v::l)=qdm nameS qby (if v.isS then nameS s v.t v.d else if v.root then qby s v.e else s) l:=rfl;rw [this,foldV_name l,nameV];cases hv:v.isS
  · simp [qby]
  ·
   simp only [nameS,if_true,true_and];split<;>simp
theorem namesP_walk (p:Proc):qd6 p=p.params.map (·.name)++nameV (wkP p):=by
 unfold qd6;rw [(wkP_fold nameS qby p _).2,foldV_name]
def rootV:List Vt→List Ex
 | []=>[]
 | v::l=>if v.root then v.e::rootV l else rootV l
def okV (v:Vt):Prop:=v.isS=true→v.root=false
theorem foldV_root:∀ (l:List Vt) (s:List Ex),(∀ v∈l,okV v)→qdm keepS exprR s l=s++rootV l
 | [],s,_=>by simp [qdm,rootV]
 | v::l,s,h=>by
  have:qdm keepS exprR s (v::l)=qdm keepS exprR (if v.isS then keepS s v.t v.d else if v.root then exprR s v.e else s) l:=rfl;rw [this,foldV_root l _ (fun x hx=>h x (by simp [hx])),rootV];cases hv:v.isS
  ·
   simp only [exprR,Bool.false_eq_true,if_false];split<;>simp
  ·
   have:=h v (by simp) hv;simp [keepS,this]
mutual
theorem wkE_okV:∀ (e:Ex) (r:Bool) (out:List Vt),(∀ v∈out,okV v)→∀ v∈wkE e r out,okV v
 | .mk op n x args,r,out,h=>by
  rw [wkE];split
  · exact h
  ·
   refine wkEL_okV args _ fun v hv=>?_;rcases List.mem_append.1 hv with hv | hv
   · exact h v hv
   · rw [List.mem_singleton.1 hv];intro h;cases h
theorem wkEL_okV:∀ (l:List Ex) (out:List Vt),(∀ v∈out,okV v)→∀ v∈wkEL l out,okV v
 | [],out,h=>by rw [wkEL];exact h
 | e::l,out,h=>by
  rw [wkEL];split
  · exact wkEL_okV l _ (wkE_okV e false out h)
  · exact h
end
theorem wkF_okV (e:Ex) (out:List Vt) (h:∀ v∈out,okV v):∀ v∈wkF e out,okV v:=by
 unfold wkF;split
 · exact h
 · exact wkE_okV e true out h
mutual
theorem wkS_okV:∀ (t:St) (d:Nat) (out:List Vt),(∀ v∈out,okV v)→∀ v∈wkS t d out,okV v
 | .mk _ _ _ a b body els,d,out,h=>by
  rw [wkS];exact wkB_okV els _ _ (wkB_okV body _ _ (wkF_okV b _ (wkF_okV a _ h)))
theorem wkB_okV:∀ (l:List St) (d:Nat) (out:List Vt),(∀ v∈out,okV v)→∀ v∈wkB l d out,okV v
 | [],d,out,h=>by rw [wkB];exact h
 | t::l,d,out,h=>by
  rw [wkB];split
  ·
   refine wkB_okV l d _ (wkS_okV t d _ fun v hv=>?_);rcases List.mem_append.1 hv with hv | hv
   · exact h v hv
   · rw [List.mem_singleton.1 hv];intro h;rfl
  · exact h
end
theorem exprsP_walk (p:Proc):qb7 p=rootV (wkP p):=by
 unfold qb7;rw [(wkP_fold keepS exprR p _).2];have:=foldV_root (wkP p) [] (wkB_okV p.body 1 [] (by simp));simpa using this
theorem root_ok {t:St} {d:Nat} (h:okS t d) {e:Ex} (he:e=t.a∨e=t.b) (hn:absE e=false):chkE e 1=0:=by
 have h1:=((qcl t d).1 h).1;have hu:(qba t.op).2=true∧qb5 t (qba t.op).1=true:=by
  unfold qbl at h1;by_cases h:(qba t.op).2=false∨qb5 t (qba t.op).1=false
  · rw [if_pos h] at h1;cases h1
  · simpa using h
 have hs:=hu.2;unfold qb5 at hs;rcases he with rfl | rfl
 ·
  refine stmtErr_a h1 ?_;cases ha:(qba t.op).1.a
  · simp [ha,hn] at hs
  · rfl
 ·
  refine stmtErr_b h1 ?_;cases ha:(qba t.op).1.b
  · simp [ha,hn] at hs
  · rfl
theorem firstW_root {e:Ex} {x:Nat×List Ex} {P:Ex→Prop} (h:∀ y∈x.2,P y) (he:absE e=false→P e):∀ y∈(qbu exprR e x).2,P y:=by
 unfold qbu;split
 · exact h
 ·
  rename_i hn;simp only [not_or,Bool.not_eq_true] at hn;intro y hy;rcases List.mem_append.1 hy with hy | hy
  · exact h y hy
  · rw [List.mem_singleton.1 hy];exact he hn.2
mutual
theorem stW_root:∀ (t:St) (d:Nat) (x:Nat×List Ex),okS t d→(∀ y∈x.2,chkE y 1=0)→∀ y∈(stW keepS exprR t d x).2,chkE y 1=0
 | .mk op nm mx a b body els,d,x,hk,h=>by
  have hk':=(qcl _ _).1 hk;rw [stW];refine blkW_root els _ _ hk'.2.2 (blkW_root body _ _ hk'.2.1 (firstW_root (firstW_root h fun hn=>?_) fun hn=>?_))
  · exact root_ok hk (.inl rfl) hn
  · exact root_ok hk (.inr rfl) hn
theorem blkW_root:∀ (l:List St) (d:Nat) (x:Nat×List Ex),okL l d→(∀ y∈x.2,chkE y 1=0)→∀ y∈(blkW keepS exprR l d x).2,chkE y 1=0
 | [],d,x,hk,h=>by rw [blkW];exact h
 | t::l,d,x,hk,h=>by
  rw [blkW];split
  · exact h
  · exact blkW_root l d _ (fun y hy=>hk y (by simp [hy])) (stW_root t d _ (hk t (by simp)) h)
end
theorem exprs_ok {p:Proc} (h:qck p=0):∀ e∈qb7 p,chkE e 1=0:=blkW_root p.body 1 _ (validP_ok h) (by simp)
end Go.Cw
