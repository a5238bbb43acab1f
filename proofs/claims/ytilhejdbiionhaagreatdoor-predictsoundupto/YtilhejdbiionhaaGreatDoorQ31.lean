/- Part 31 of a proof: CwPl -/
import Derived.Test.YtilhejdbiionhaaGreatDoorQ26
import Derived.Test.YtilhejdbiionhaaGreatDoorQ30
set_option linter.all false

namespace Go.Cw
open Go Go.Abs
mutual
def ndS:St→Prop
 | .mk _ _ _ a b body els=>(absE a=true∨NDE a)∧(absE b=true∨NDE b)∧ndL body∧ndL els
def ndL:List St→Prop
 | []=>True
 | t::l=>ndS t∧ndL l
end
theorem ndS_iff (t:St):ndS t↔(absE t.a=true∨NDE t.a)∧(absE t.b=true∨NDE t.b)∧ndL t.body∧ndL t.els:=by
 cases t;rw [ndS];rfl
theorem firstN_no:∀ (l:List Ex) (k:Int),(firstN l k).2.2=false→∀ x∈l,nonDet x.op=false
 | [],_,_,x,h=>by cases h
 | e::l,k,h,x,hx=>by
  rw [firstN] at h;split at h
  · cases h
  ·
   rename_i hn;rcases List.mem_cons.1 hx with rfl | hx
   · simpa using hn
   · exact firstN_no l _ h x hx
theorem nd_first {e:Ex} {x:Nat×List Ex} (h:(qbg exprR e x).1≠0) (hn:∀ y∈(qbg exprR e x).2,NDE y):(absE e=true∨NDE e)∧∀ y∈x.2,NDE y:=by
 unfold qbg at h hn;split at h
 ·
  rename_i hc;rw [if_pos hc] at hn;exact ⟨.inl (hc.resolve_left h),hn⟩
 ·
  rename_i hc;rw [if_neg hc] at hn;exact ⟨.inr (hn e (by simp [exprR])),fun y hy=>hn y (by simp [exprR,hy])⟩
mutual
theorem nd_st:∀ (s:St) (d:Nat) (x:Nat×List Ex),(stW keepS exprR s d x).1≠0→(∀ y∈(stW keepS exprR s d x).2,NDE y)→ndS s∧∀ y∈x.2,NDE y
 | .mk _ _ _ a b body els,d,x,h,hn=>by
  rw [stW] at h hn;obtain ⟨h1,h2⟩:=nd_bl els (d+1) _ h hn;have l1:=blkW_le keepS exprR els (d+1) (blkW keepS exprR body (d+1) (qbg exprR b (qbg exprR a x)));obtain ⟨h3,h4⟩:=nd_bl body (d+1) _ (by omega) h2;have l2:=blkW_le keepS exprR body (d+1) (qbg exprR b (qbg exprR a x));obtain ⟨h5,h6⟩:=nd_first (by omega) h4;have l3:=firstW_le exprR b (qbg exprR a x);obtain ⟨h7,h8⟩:=nd_first (by omega) h6;exact ⟨by rw [ndS];exact ⟨h7,h5,h3,h1⟩,h8⟩
theorem nd_bl:∀ (l:List St) (d:Nat) (x:Nat×List Ex),(blkW keepS exprR l d x).1≠0→(∀ y∈(blkW keepS exprR l d x).2,NDE y)→ndL l∧∀ y∈x.2,NDE y
 | [],d,x,h,hn=>⟨by rw [ndL];trivial,by rw [blkW] at hn;exact hn⟩
 | s::l,d,x,h,hn=>by
  rw [blkW] at h hn;split at h
  · rename_i hz;exact (h hz).elim
  ·
   rename_i hz;rw [if_neg hz] at hn;obtain ⟨h1,h2⟩:=nd_bl l d _ h hn;have l1:=blkW_le keepS exprR l d (stW keepS exprR s d (x.1 - 1,keepS x.2 s d));obtain ⟨h3,h4⟩:=nd_st s d _ (by omega) h2;exact ⟨by rw [ndL];exact ⟨h3,h1⟩,by simpa [keepS] using h4⟩
end
theorem nd_ok {p:Proc} (h:qbx p=0):ndL p.body:=by
 have hv:=cost_valid h;have hd:=cost_det h;unfold detErr at hd;split at hd
 · rename_i h1;exact (h1 hd).elim
 split at hd
 · cases hd
 rename_i h1;unfold firstP at h1;rw [if_neg (by simp [hv])] at h1;have h2:=firstN_no _ _ (by simpa using h1);have hc:=blkW_cnt keepS exprR valS qc1 p.body 1 (401,[]) (401,(0:Int)) rfl;exact (nd_bl p.body 1 (401,[]) (by rw [hc];exact valid_left hv) fun y hy x hx=>h2 x (mem_preL hy hx)).1
section
variable {C:Cfg} {G:Vis}
def FineR (G:Vis) (s:MS) (r:Except Stop Unit×MS):Prop:=(∀ z,r.1=.error z→z.code≠1009)∧(r.1=.ok ()→tyS G r.2∧∀ k,qa7 s.vars k≠none→qa7 r.2.vars k≠none)
theorem FineR.err {s t:MS} {z:Stop} (h:z.code≠1009):FineR G s (.error z,t):=⟨fun _ e=>(by cases e;exact h),fun e=>(by cases e)⟩
theorem FineR.same {s t:MS} {r:Except Stop Unit} (h:∀ z,r=.error z→z.code≠1009) (hT:tyS G s) (hv:t.vars=s.vars):FineR G s (r,t) :=
 ⟨h,fun _=>⟨fun k w ty hw hg=>hT k w ty (by rw [← hv];exact hw) hg,fun k hk=>by simp only;rw [hv];exact hk⟩⟩
theorem FineR.pre {s s1:MS} {r:Except Stop Unit×MS} (h:FineR G s1 r) (hv:∀ k,qa7 s.vars k≠none→qa7 s1.vars k≠none):FineR G s r:=⟨h.1,fun e=>⟨(h.2 e).1,fun k hk=>(h.2 e).2 k (hv k hk)⟩⟩
theorem tick_vs {s t:MS} (h:qc2 s=(.ok (),t)):t.vars=s.vars:=by
 unfold qc2 at h;split at h
 · cases h
 · cases h;rfl
theorem VE.grow {vis:Vis} {s t:MS} (h:VE vis s) (hg:∀ k,qa7 s.vars k≠none→qa7 t.vars k≠none):VE vis t:=fun k hk=>hg k (h k hk)
theorem no_loop {vis:Vis} {body:MS→Except Stop Unit×MS} {name:qab} {b:Int} (hG:∀ ty,qa7 G name=some ty→(1:Int)=ty) (hB:∀ s,tyS G s→VE vis s→qa7 s.vars name≠none→FineR G s (body s)) :
  ∀ (f:Nat) (i:Int) (s:MS),tyS G s→VE vis s→FineR G s (qcd body name b f i s)
 | 0,i,s,hT,hV=>by
  rw [qcd];exact ⟨fun z h=>(by cases h),fun _=>⟨hT,fun k h=>h⟩⟩
 | f+1,i,s,hT,hV=>by
  rw [qcd];split
  ·
   rcases ht:qc2 s with ⟨z | u,s1⟩
   · exact .err (no_tick ht)
   ·
    have hv:=tick_vs ht;simp only;have hgr:∀ k,qa7 s.vars k≠none→qa7 (qbk s1.vars name (vI i)) k≠none:=fun k hk=>by
     rw [qbl];split
     · simp
     · rw [hv];exact hk
    have hT2:tyS G { s1 with vars:=qbk s1.vars name (vI i) }:=tyS_set (fun k w ty hw hg=>hT k w ty (by rw [← hv];exact hw) hg) (fun ty hg=>hG ty hg);have hb:=hB _ hT2 (hV.grow hgr) (by simp only;rw [qbl,if_pos rfl];simp);rcases hx:body { s1 with vars:=qbk s1.vars name (vI i) } with ⟨z | u,s2⟩
    ·
     rw [hx] at hb;exact .err (hb.1 z rfl)
    ·
     rw [hx] at hb;obtain ⟨g1,g2⟩:=hb.2 rfl;have hg:=fun k hk=>g2 k (hgr k hk);exact (no_loop hG hB f (W64 (i+1)) s2 g1 (hV.grow hg)).pre hg
  · exact ⟨fun z h=>(by cases h),fun _=>⟨hT,fun k h=>h⟩⟩
theorem no_exp {vis:Vis} (hsub:subV vis G) {e:Ex} {s:MS} (hc:chkE e 1=0) (hn:absE e=true∨NDE e) (hT:(ofE vis e).2=0) (hS:tyS G s) (hE:VE vis s) :
  (∀ z t,evE C e s=(.error z,t)→z.code≠1009)∧∀ v t,evE C e s=(.ok v,t)→v.k=(ofE vis e).1∧(1≤v.k∧v.k≤3)∧t.vars=s.vars∧tyS G t∧VE vis t:=by
 have hn:NDE e:=by
  rcases hn with h | h
  ·
   have har:=(chkE_ar hc).1;unfold absE at h;simp only [Bool.and_eq_true,decide_eq_true_eq] at h;obtain ⟨⟨⟨h1,_⟩,_⟩,h4⟩:=h;rw [h1,h4] at har;cases har
  · exact h
 refine ⟨fun z t h=>no_ev hsub e 1 s t z hc hn hT hS hE h,fun v t h=>?_⟩;have hk:=kind_ev (C:=C) hsub (e:=e) (d:=1) (ty:=(ofE vis e).1) (s:=s) (t:=t) (v:=v) hc (by rw [← hT]) hS h;have hv:t.vars=s.vars:=by
  have:=ev_vars (C:=C) e s;rw [h] at this;exact this
 exact ⟨hk.1,by rw [hk.1];exact hk.2,hv,fun k w ty hw hg=>hS k w ty (by rw [← hv];exact hw) hg,fun k hk=>by rw [hv];exact hE k hk⟩
theorem store_vs {k:qab} {v:V} {s t:MS} (h:qbi C k v s=(.ok (),t)):t.vars=s.vars:=by
 unfold qbi at h;split at h
 · cases h
 split at h
 · cases h
 · cases h;rfl
theorem emit_vs {v:V} {s t:MS} (h:emitS v s=(.ok (),t)):t.vars=s.vars:=by
 unfold emitS at h;split at h
 · cases h
 · cases h;rfl
theorem okS_8 {t:St} {d:Nat} (h:okS t d) (h8:t.op=8):t.max≤999:=by
 have h1:=((qdk t d).1 h).1;unfold qci shapeOk at h1;grind
theorem no_step {t:St} {d:Nat} {ts:TS} {s:MS} (hok:okS t d) (hn:ndS t) (hT:TOk ts) (hf:fresh (nmS t) ts) (h0:(stT t ts).1=0) (hsub:subV (stT t ts).2.all G) (hS:tyS G s) (hE:VE ts.visible s)
  (hB:∀ ts s,TOk ts→fresh (nmL t.body) ts→(qc9 t.body ts).1=0→subV (qc9 t.body ts).2.all G→tyS G s→VE ts.visible s→FineR G s (qcu C t.body s))
  (hEl:∀ ts s,TOk ts→fresh (nmL t.els) ts→(qc9 t.els ts).1=0→subV (qc9 t.els ts).2.all G→tyS G s→VE ts.visible s→FineR G s (qcu C t.els s)) :
  FineR G s (stI C t s)∧(t.op=1→(stI C t s).1=.ok ()→qa7 (stI C t s).2.vars t.name≠none):=by
 obtain ⟨na,nb,_,_⟩:=(ndS_iff t).1 hn;have hTG:=go_st t ts hT hf h0;have hvis:subV ts.visible G:=hT.sub.trans (hTG.mono.trans hsub);rw [nmS_eq] at hf;have hop:=okS_op hok;have hops:=stT_ops h0;have h05:=fun h5=>stT_5 (t:=t) h5 h0;have h06:=fun h6=>stT_6 (t:=t) h6 h0;rw [stT_eq] at h0 hsub;unfold stStep at h0 hsub;rw [if_neg (by rw [hops];simp)] at h0 hsub;by_cases h8:t.op=8
 ·
  rw [stI_eq,if_neg (by omega),if_neg (by omega),if_neg (by omega),if_neg (by omega),if_neg (by omega),if_neg (by omega),if_pos h8];have:=okS_8 hok h8;exact ⟨.err (by simp only [ab];omega),fun h=>by omega⟩
 have hta:=ops_a hops h8;have ho1:(opsT ts.visible t).1=(ofE ts.visible t.a).1:=by
  unfold opsT;rw [if_neg h8];split<;>rfl
 obtain ⟨ea,va⟩:=no_exp (C:=C) hvis (okS_a hok h8) na hta hS hE;rcases hx:evE C t.a s with ⟨z | u,s1⟩
 ·
  have:stI C t s=(.error z,s1):=by
   by_cases h6:t.op=6
   · rw [stI_6 C h6,hx]
   ·
    rw [stI_eq,hx,if_neg h6,if_neg h8];split<;>try rfl
    split<;>try rfl
    split<;>try rfl
    split<;>try rfl
    split<;>try rfl
    omega
  rw [this];exact ⟨.err (ea z s1 hx),fun _ h=>(by cases h)⟩
 obtain ⟨ku,ru,vu,hS1,hE1⟩:=va u s1 hx;have gr1:∀ k,qa7 s.vars k≠none→qa7 s1.vars k≠none:=fun k hk=>by rw [vu];exact hk
 by_cases h1:t.op=1∨t.op=2
 ·
  have hst:stI C t s=(.ok (),{ s1 with vars:=qbk s1.vars t.name u }):=by
   rw [stI_eq,if_pos h1,hx]
  rw [hst];have hG:∀ ty,qa7 G t.name=some ty→u.k=ty:=fun ty hg=>by
   rcases h1 with h1 | h1
   ·
    rw [if_pos h1] at hsub;have:=hsub t.name (opsT ts.visible t).1 (by simp only [TS.decl];rw [qbl,if_pos rfl]);rw [this] at hg;cases hg;rw [ku,ho1]
   ·
    rw [if_neg (by omega),if_pos h1] at h0;rcases hv:qa7 ts.visible t.name with _ | ty'
    · rw [hv] at h0;cases h0
    ·
     rw [hv] at h0;simp only at h0;have:=hvis _ _ hv;rw [this] at hg;cases hg;by_cases hl:qa7 ts.loops t.name=some true
     · rw [if_pos hl] at h0;cases h0
     ·
      rw [if_neg hl] at h0;by_cases hy:ty≠(opsT ts.visible t).1
      · rw [if_pos hy] at h0;cases h0
      · rw [ku,← ho1];simpa using Eq.symm (by simpa using hy)
  refine ⟨⟨fun z h=>(by cases h),fun _=>⟨tyS_set hS1 hG,fun k hk=>?_⟩⟩,fun _ _=>?_⟩
  ·
   simp only;rw [qbl];split
   · simp
   · exact gr1 k hk
  ·
   simp only;rw [qbl,if_pos rfl];simp
 have hn1:¬ t.op=1:=fun e=>h1 (.inl e);have hn2:¬ t.op=2:=fun e=>h1 (.inr e);refine ⟨?_,fun h=>(hn1 h).elim⟩;rw [if_neg hn1,if_neg hn2] at h0 hsub;by_cases h4:t.op=4
 ·
  rw [if_neg (by omega),if_pos h4] at h0;have hk2:u.k=2:=by
   rw [ku,← ho1];by_cases hy:(opsT ts.visible t).1≠2
   · rw [if_pos hy] at h0;cases h0
   · simpa using hy
  have hst:stI C t s=qbi C u.s V.nil s1:=by
   rw [stI_eq,if_neg h1,if_neg (by omega),if_pos h4,hx];simp only [hk2,if_true]
  rw [hst];rcases hy:qbi C u.s V.nil s1 with ⟨z | w,s2⟩
  · exact .err (no_store hy)
  · exact (FineR.same (fun z h=>(by cases h)) hS1 (store_vs hy)).pre gr1
 by_cases h7:t.op=7
 ·
  rw [if_neg (by omega),if_neg h4,if_pos h7] at h0;have hk3:u.k=1∨u.k=2:=by
   have:u.k≠3:=by
    rw [ku,← ho1];by_cases hy:(opsT ts.visible t).1=3
    · rw [if_pos hy] at h0;cases h0
    · exact hy
   omega
  have hst:stI C t s=emitS u s1:=by
   rw [stI_eq,if_neg h1,if_neg (by omega),if_neg h4,if_neg (by omega),if_neg (by omega),if_pos h7,hx];simp only [hk3,if_true]
  rw [hst];rcases hy:emitS u s1 with ⟨z | w,s2⟩
  · exact .err (no_emit hy)
  · exact (FineR.same (fun z h=>(by cases h)) hS1 (emit_vs hy)).pre gr1
 by_cases h5:t.op=5
 ·
  obtain ⟨q1,q2⟩:=h05 h5;rw [if_neg (by omega),if_neg h4,if_neg h7,if_pos h5] at h0 hsub;rw [if_neg (by omega),List.nil_append] at hf;by_cases h6:(opsT ts.visible t).1≠3
  · rw [if_pos h6] at h0;simp at h0
  rw [if_neg h6] at h0 hsub;have hk3:u.k=3:=by rw [ku,← ho1];simpa using h6
  rw [if_neg (by simp [q1])] at h0 hsub;have hb1:=blkOf_seq q1;have g1:=TGo.blk (l:=t.body) (fun g=>go_seq t.body ts hT hf.left g) q1;have hb2:=blkOf_seq h0;have g2:=TGo.blk (l:=t.els) (fun g=>go_seq t.els _ g1.ok (hf.right g1) g) h0;have s1':subV (qc9 t.body ts).2.all G:=by
   have:(qcm t.body (qc9 t.body) ts).2.all=(qc9 t.body ts).2.all:=by unfold qcm;rw [if_neg (by simp [hb1])]
   rw [← this];exact g2.mono.trans hsub
  have s2':subV (qc9 t.els (qcm t.body (qc9 t.body) ts).2).2.all G:=by
   have:(qcm t.els (qc9 t.els) (qcm t.body (qc9 t.body) ts).2).2.all=(qc9 t.els (qcm t.body (qc9 t.body) ts).2).2.all:=by
    obtain ⟨X,hX⟩:∃ X,X=(qcm t.body (qc9 t.body) ts).2:=⟨_,rfl⟩
    rw [← hX] at hb2 ⊢;unfold qcm;rw [if_neg (by simp [hb2])]
   rw [← this];exact hsub
  have hst:stI C t s=if u.n=1 then qcu C t.body s1 else qcu C t.els s1:=by
   rw [stI_eq,if_neg h1,if_neg (by omega),if_neg h4,if_pos h5,hx];simp only [hk3,if_true]
  have gv:=vk_blk (l:=t.body) (f:=qc9 t.body) (fun g=>vk_seq t.body ts hT.nod g) q1;rw [hst];split
  · exact (hB ts s1 hT hf.left hb1 s1' hS1 hE1).pre gr1
  · exact (hEl _ s1 g1.ok (hf.right g1) hb2 s2' hS1 (fun k hk=>hE1 k ((gv.sub k hk).resolve_right id))).pre gr1
 have h36:t.op=3∨t.op=6:=by omega
 have htb:=ops_b hops h36;have ho2:(opsT ts.visible t).2.1=(ofE ts.visible t.b).1:=by
  unfold opsT;rw [if_neg h8,if_pos ⟨hta,h36⟩]
 obtain ⟨eb,vb⟩:=no_exp (C:=C) hvis (okS_b hok h36) nb htb hS1 hE1;rcases hy:evE C t.b s1 with ⟨z | v,s2⟩
 ·
  have:stI C t s=(.error z,s2):=by
   rcases h36 with h3 | h6
   ·
    rw [stI_eq,if_neg h1,if_pos h3,hx];simp only [hy]
   ·
    rw [stI_6 C h6,hx];simp only [hy]
  rw [this];exact .err (eb z s2 hy)
 obtain ⟨kv,rv,vv,hS2,hE2⟩:=vb v s2 hy;have gr2:∀ k,qa7 s.vars k≠none→qa7 s2.vars k≠none:=fun k hk=>by rw [vv];exact gr1 k hk
 by_cases h3:t.op=3
 ·
  rw [if_pos h3] at h0;have hk:u.k=2∧(v.k=1∨v.k=2):=by
   by_cases hz:(opsT ts.visible t).1≠2∨(opsT ts.visible t).2.1=3
   · rw [if_pos hz] at h0;cases h0
   ·
    rw [ho2] at hz;omega
  have hst:stI C t s=qbi C u.s v s2:=by
   rw [stI_eq,if_neg h1,if_pos h3,hx];simp only [hy];rw [if_pos hk]
  rw [hst];rcases hy:qbi C u.s v s2 with ⟨z | w,s3⟩
  · exact .err (no_store hy)
  · exact (FineR.same (fun z h=>(by cases h)) hS2 (store_vs hy)).pre gr2
 have h6:t.op=6:=by omega
 obtain ⟨q1,q2⟩:=h06 h6;rw [if_neg h3,if_neg h4,if_neg h7,if_neg h5,if_pos h6] at h0 hsub;rw [if_pos (.inr h6)] at hf;by_cases hz:(opsT ts.visible t).1≠1∨(opsT ts.visible t).2.1≠1
 · rw [if_pos hz] at h0;simp at h0
 rw [if_neg hz] at h0 hsub;have hk1:u.k=1∧v.k=1:=by rw [ku,← ho1,kv,← ho2];omega
 have g0:=TGo.set hT (hf.2 t.name (by simp)) 1 (qbk ts.loops t.name true);have hfb:=(hf.right g0).left;have hb1:(qc9 t.body ⟨qbk ts.visible t.name 1,qbk ts.loops t.name true,qbk ts.all t.name 1⟩).1=0:=by
  simp only at h0;exact blkOf_seq h0
 have s1':subV (qc9 t.body ⟨qbk ts.visible t.name 1,qbk ts.loops t.name true,qbk ts.all t.name 1⟩).2.all G:=by
  simp only at hsub;unfold qcm at hsub;rw [if_neg (by simp [hb1])] at hsub;exact hsub
 have g1:=go_seq t.body _ g0.ok hfb hb1;have hst:stI C t s=if tooMany u.n v.n t.max then (.error (ab 1005),s2) else qcd (qcu C t.body) t.name v.n 16386 u.n s2:=by
  rw [stI_6 C h6,hx];simp only [hy];rw [if_pos hk1]
 rw [hst];split
 · exact .err (by simp [ab])
 ·
  refine (no_loop (G:=G) (vis:=ts.visible) (fun ty hg=>?_) (fun s hs hv hm=>?_) 16386 u.n s2 hS2 hE2).pre gr2
  ·
   have:=(g1.mono.trans s1') t.name 1 (by simp only;rw [qbl,if_pos rfl]);rw [this] at hg;cases hg;rfl
  ·
   refine hB _ s g0.ok hfb hb1 s1' hs fun k hk=>?_;rcases (qbv _ _ _ _).1 hk with rfl | hk
   · exact hm
   · exact hv k hk
mutual
theorem no_st:∀ (t:St) (d:Nat) (ts:TS) (s:MS),okS t d→ndS t→TOk ts→fresh (nmS t) ts→(stT t ts).1=0→subV (stT t ts).2.all G→tyS G s→VE ts.visible s →
  FineR G s (stI C t s)∧(t.op=1→(stI C t s).1=.ok ()→qa7 (stI C t s).2.vars t.name≠none)
 | .mk op name mx a b body els,d,ts,s,hok,hn,hT,hf,h0,hsub,hS,hE=>by
  have hok':=(qdk _ _).1 hok;have hn':=(ndS_iff _).1 hn;exact no_step hok hn hT hf h0 hsub hS hE
   (fun ts s h1 h2 h3 h4 h5 h6=>no_bl body (d+1) ts s hok'.2.1 hn'.2.2.1 h1 h2 h3 h4 h5 h6)
   (fun ts s h1 h2 h3 h4 h5 h6=>no_bl els (d+1) ts s hok'.2.2 hn'.2.2.2 h1 h2 h3 h4 h5 h6)
theorem no_bl:∀ (l:List St) (d:Nat) (ts:TS) (s:MS),okL l d→ndL l→TOk ts→fresh (nmL l) ts→(qc9 l ts).1=0→subV (qc9 l ts).2.all G→tyS G s→VE ts.visible s→FineR G s (qcu C l s)
 | [],d,ts,s,_,_,_,_,_,_,hS,_=>by
  rw [qcu];exact ⟨fun z h=>(by cases h),fun _=>⟨hS,fun k h=>h⟩⟩
 | t::l,d,ts,s,hok,hn,hT,hf,h0,hsub,hS,hE=>by
  rw [qc9] at h0 hsub;rw [nmL] at hf;rw [ndL] at hn;have he:(stT t ts).1=0:=by
   by_cases he:(stT t ts).1≠0
   · rw [if_pos he] at h0;exact (he h0).elim
   · simpa using he
  rw [if_neg (by simp [he])] at h0 hsub;have g1:=go_st t ts hT hf.left he;have g2:=go_seq l _ g1.ok (hf.right g1) h0;have gv:=vk_st t ts hT.nod he;rw [qcu];rcases ht:qc2 s with ⟨z | u,s1⟩
  · exact .err (no_tick ht)
  have hv:=tick_vs ht;have hS1:tyS G s1:=fun k w ty hw hg=>hS k w ty (by rw [← hv];exact hw) hg;have hE1:VE ts.visible s1:=fun k hk=>by rw [hv];exact hE k hk
  obtain ⟨f1,f2⟩:=no_st t d ts s1 (hok t (by simp)) hn.1 hT hf.left he (g2.mono.trans hsub) hS1 hE1;simp only;rcases hx:stI C t s1 with ⟨z | w,s2⟩
  ·
   rw [hx] at f1;exact .err (f1.1 z rfl)
  ·
   rw [hx] at f1 f2;obtain ⟨k1,k2⟩:=f1.2 rfl;simp only at k1 k2 f2 ⊢;refine (no_bl l d (stT t ts).2 s2 (fun x hx=>hok x (by simp [hx])) hn.2 g1.ok (hf.right g1) h0 hsub k1 (fun k hk=>?_)).pre (fun k hk=>k2 k (by rw [hv];exact hk));rcases gv.sub k hk with h | ⟨h,rfl⟩
   · exact k2 k (hE1 k h)
   · exact f2 h trivial
end
end
theorem ve_args:∀ (ps:List Param) (vs:List V) (a:List (qab×V)) (ts:TS),vs.length=ps.length→(∀ k∈qba ts.visible,qa7 a k≠none)→∀ k∈qba (declP ps ts).visible,qa7 (qcj ps vs a) k≠none
 | [],vs,a,ts,_,h=>by
  cases vs<;>exact h
 | x::l,[],a,ts,hl,h=>by simp at hl
 | x::l,v::r,a,ts,hl,h=>by
  rw [qcj,show declP (x::l) ts=declP l (ts.decl x.name x.ty) from rfl];refine ve_args l r _ _ (by simpa using hl) fun k hk=>?_;rw [qbl];split
  · simp
  ·
   rename_i hn;rcases (qbv _ _ _ _).1 hk with rfl | hk
   · exact (hn rfl).elim
   · exact h k hk
theorem run_no {fmt:Int→qab} {p:Proc} {args:List V} {st:List Pr} {ft:Foot} (hr:runOk p args st ft):(runS fmt p args st ft).code≠1009:=by
 have hr':=(qb9 _ _ _ _).1 hr;rw [qco hr];have hc:=hr'.1;have hvp:=cost_valid hc;have hty:typeErr p=0:=by
  have:=cost_det hc;unfold detErr at this;split at this
  · contradiction
  · rename_i ht;simpa using ht
 unfold typeErr at hty;rw [if_neg (by simp [hvp])] at hty;split at hty
 · contradiction
 split at hty
 · contradiction
 rename_i hdup;have hdup:dupM [] (namesP p)=false:=by simpa using hdup
 rw [namesP_eq hvp] at hdup;have hnd:=((dupM_iff _ [] (by simp)).1 hdup).1;have hF:fresh (p.params.map (·.name)++nmL p.body) ⟨[],[],[]⟩:=⟨hnd,by simp [qba]⟩
 have hT0:TOk ⟨[],[],[]⟩:=⟨by simp [qba],.refl _⟩
 have gP:=go_params p.params ⟨[],[],[]⟩ hT0 hF.left;have hfB:=hF.right gP;have hb1:(qc9 p.body (declP p.params ⟨[],[],[]⟩)).1=0:=blkOf_seq hty;have gB:=go_seq p.body _ gP.ok hfB hb1;have hao:=(argsErr_ok hr'.2.1)
 have haok:argsOk p.params args=true:=by
  have:=hr'.2.1;unfold qcq at this;split at this
  · contradiction
  ·
   split at this
   · assumption
   · contradiction
 have hta:=ty_args p.params args [] ⟨[],[],[]⟩ haok hao.1 (by simp [qa7]) (by simp [qa7]);have hsub:subV (declP p.params ⟨[],[],[]⟩).visible (qc9 p.body (declP p.params ⟨[],[],[]⟩)).2.all:=gP.ok.sub.trans gB.mono;have hP:=no_bl (C:=cfgR fmt st ft) (G:=(qc9 p.body (declP p.params ⟨[],[],[]⟩)).2.all) p.body 1 _ (ms0 p args) (cost_okL hc) (nd_ok hc) gP.ok hfB hb1 (.refl _) (fun k v ty hv hg=>by
  obtain ⟨ty',ht'⟩:=hta.2 k v hv;have:=hsub _ _ ht';rw [this] at hg;cases hg;exact hta.1 k v _ hv ht') (ve_args p.params args [] ⟨[],[],[]⟩ hao.1 (by simp [qba]))
 rcases hx:qcu (cfgR fmt st ft) p.body (ms0 p args) with ⟨z | u,s⟩
 ·
  rw [hx] at hP;exact hP.1 z rfl
 · simp [doneS]
end Go.Cw
