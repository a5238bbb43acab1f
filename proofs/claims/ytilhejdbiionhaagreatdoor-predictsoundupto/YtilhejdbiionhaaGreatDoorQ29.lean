/- Part 29 of a proof: CwPg, CwPh, CwVa -/
import Derived.Test.YtilhejdbiionhaaGreatDoorQ26
import Derived.Test.YtilhejdbiionhaaGreatDoorQ27
import Derived.Test.YtilhejdbiionhaaGreatDoorQ28
set_option linter.all false

namespace Go.Cw
open Go Go.Abs
theorem Apx.upd {f:MV} {vs:List (qab×V)} (h:Apx f vs) {s:qab} {a:AX} {v:V} (hv:a.known=true→a.v=v):Apx (updF f s a) (qbk vs s v):=fun k b hb hk=>by
 rw [qbl];unfold updF at hb;split at hb
 ·
  rename_i hs;cases hb;rw [if_pos hs,hv hk]
 ·
  rename_i hs;rw [if_neg hs];exact h k b hb hk
theorem Apx.joinl {f g:MV} {vs:List (qab×V)} (h:Apx f vs):Apx (joinF f g) vs:=fun k b hb hk=>by
 unfold joinF at hb;rcases hf:f k with _ | a
 · rw [hf] at hb;cases hb
 ·
  rw [hf] at hb;simp only [Option.map_some,Option.some.injEq] at hb;subst hb;unfold jn at hk ⊢;rcases hg:g k with _ | c
  · rw [hg] at hk;cases hk
  ·
   rw [hg] at hk;simp only at hk ⊢;split at hk
   ·
    rename_i he;rw [if_pos he];exact h k a hf hk
   · cases hk
theorem Apx.joinr {f g:MV} {vs:List (qab×V)} (h:Apx g vs):Apx (joinF f g) vs:=fun k b hb hk=>by
 unfold joinF at hb;rcases hf:f k with _ | a
 · rw [hf] at hb;cases hb
 ·
  rw [hf] at hb;simp only [Option.map_some,Option.some.injEq] at hb;subst hb;unfold jn at hk ⊢;rcases hg:g k with _ | c
  · rw [hg] at hk;cases hk
  ·
   rw [hg] at hk;simp only at hk ⊢;split at hk
   ·
    rename_i he;rw [if_pos he,axEq_iff.1 he];rw [axEq_iff.1 he] at hk;exact h k c hg hk
   · cases hk
def CovS (m:MS) (o:Option MV×XS) (y:Except Stop Unit×MS):Prop :=
 (∀ k∈y.2.reads,k∈m.reads∨k∈o.2.r)∧(∀ k∈y.2.puts,k∈m.puts∨k∈o.2.w)∧(∀ u,y.1=.ok u→∃ f',o.1=some f'∧Apx f' y.2.vars)
theorem CovS.err {m m':MS} {o:Option MV×XS} {z:Stop} (h1:∀ k∈m'.reads,k∈m.reads∨k∈o.2.r) (h2:∀ k∈m'.puts,k∈m.puts∨k∈o.2.w):CovS m o (.error z,m'):=⟨h1,h2,fun u h=>by cases h⟩
theorem CovS.after {m m1:MS} {x1:XS} {o:Option MV×XS} {y:Except Stop Unit×MS} (h1:∀ k∈m1.reads,k∈m.reads∨k∈x1.r) (h2:∀ k∈m1.puts,k∈m.puts∨k∈x1.w) (hle:XLe x1 o.2) (h:CovS m1 o y):CovS m o y :=
 ⟨fun k hk=>(h.1 k hk).elim (fun h=>(h1 k h).imp id (hle.r k)) .inr,fun k hk=>(h.2.1 k hk).elim (fun h=>(h2 k h).imp id (hle.w k)) .inr,h.2.2⟩
section
variable {D:Cfg} (hV:vC D) (hC:rngC D) (hA:D.all=true)
include hV hC hA
theorem cov_store {a:AX} {k:V} (hk:a.known=true→a.v=k) {f:MV} {x:XS} {m:MS} (hX:Apx f m.vars) (hf:(keyX true a x).2.f=false) (v:V) :
  CovS m (if (keyX true a x).1 then some f else none,(keyX true a x).2) (qbi D k.s v m):=by
 have hkn:a.known=true:=by
  cases h:a.known with
  | true=>rfl
  | false=>rw [keyX,if_pos h] at hf;cases hf
 have hab:=hk hkn;by_cases hko:qdt k.s=true
 ·
  have hkx:keyX true a x=(true,⟨x.r,addS x.w k.s,x.f⟩):=by simp [keyX,hkn,hab,hko]
  have hst:qbi D k.s v m=(.ok (),{ m with puts:=withS m.puts k.s,own:=qbk m.own k.s v }):=by
   unfold qbi;rw [if_neg (by simp [hko]),if_neg (by simp [hA])]
  rw [hkx,hst];refine ⟨fun q hq=>.inl hq,fun q hq=>?_,fun u _=>⟨f,rfl,hX⟩⟩;rcases withS_mem.1 hq with rfl | h
  · exact .inr (mem_addS.2 (.inr rfl))
  · exact .inl h
 ·
  have hst:qbi D k.s v m=(.error (ab 1004),m):=by
   unfold qbi;rw [if_pos (by simpa using hko)]
  rw [hst];exact CovS.err (fun q hq=>.inl hq) (fun q hq=>.inl hq)
theorem cov_cnt {body:MS→Except Stop Unit×MS} {bX:MV→XS→Option MV×XS} {name:qab} {b:Int} (hb64:i64 b)
  (hb:∀ f x m,Inv 8192 1 m→vM m→Apx f m.vars→(bX f x).2.f=false→CovS m (bX f x) (body m)) (hle:∀ f x,XLe x (bX f x).2)
  (hI:∀ s u t,Inv 8192 1 s→vM s→body s=(.ok u,t)→Inv 0 0 t∧vM t) :
  ∀ (n:Nat) (i:Int) (f:MV) (x:XS) (m:MS) (g:Nat),i64 i→(b - i).toNat=n→n<g→Inv 0 0 m→vM m→Apx f m.vars→(cntX bX name n i f x).2.f=false→CovS m (cntX bX name n i f x) (qcd body name b g i m)
 | 0,i,f,x,m,g,_,hn,hg,_,_,hX,_=>by
  obtain ⟨g',rfl⟩:∃ g',g=g'+1:=⟨g - 1,by omega⟩
  rw [cntX,qcd,if_neg (by omega)];exact ⟨fun k hk=>.inl hk,fun k hk=>.inl hk,fun u _=>⟨f,rfl,hX⟩⟩
 | n+1,i,f,x,m,g,hi,hn,hg,hInv,hM,hX,hf=>by
  obtain ⟨g',rfl⟩:∃ g',g=g'+1:=⟨g - 1,by omega⟩
  rw [cntX] at hf;rw [cntX,qcd,if_pos (by omega)];rcases hT:qc2 m with ⟨z | u,m'⟩
  ·
   have:m' = { m with steps:=m.steps+1 }:=(congrArg Prod.snd hT).symm;subst this;exact CovS.err (fun q hq=>.inl hq) (fun q hq=>.inl hq)
  have hI1:=(hInv.tick hT).vars (rng_vI hi) name;have hM1:=vM_set hV hC name (vM_tick hV hC hM hT) (okX_vI i);have hm':m' = { m with steps:=m.steps+1 }:=(congrArg Prod.snd hT).symm;have hX1:Apx (updF f name (kn (vI i))) (qbk m'.vars name (vI i)):=by
   rw [hm'];exact hX.upd fun _=>rfl
  have hB:=hb (updF f name (kn (vI i))) x { m' with vars:=qbk m'.vars name (vI i) } hI1 hM1 hX1;have hBI:=hI { m' with vars:=qbk m'.vars name (vI i) };simp only;rcases hbx:bX (updF f name (kn (vI i))) x with ⟨_ | f',x'⟩
  ·
   rw [hbx] at hf hB;have hB:=hB hf;simp only;rcases hbd:body { m' with vars:=qbk m'.vars name (vI i) } with ⟨z | u,m''⟩
   ·
    rw [hbd] at hB;rw [hm'] at hB;exact CovS.err hB.1 hB.2.1
   ·
    rw [hbd] at hB;obtain ⟨f',h,_⟩:=hB.2.2 u rfl;cases h
  ·
   rw [hbx] at hf hB;simp only at hf hB ⊢;have hcl:=cnt_le (name:=name) hle n (i+1) f' x';have hB:=hB (hcl.ff hf);rcases hbd:body { m' with vars:=qbk m'.vars name (vI i) } with ⟨z | u,m''⟩
   ·
    rw [hbd] at hB;rw [hm'] at hB;exact CovS.err (fun k hk=>(hB.1 k hk).imp id (hcl.r k)) (fun k hk=>(hB.2.1 k hk).imp id (hcl.w k))
   ·
    rw [hbd] at hB;obtain ⟨f2,h2,hX2⟩:=hB.2.2 u rfl;cases h2;have h3:=hBI u m'' hI1 hM1 hbd;have hw:W64 (i+1)=i+1:=W64_id (by have:=hi.1;omega) (by have:=hb64.2;omega);simp only;rw [hw];have ih:=cov_cnt hb64 hb hle hI n (i+1) f' x' m'' g' ⟨by have:=hi.1;omega,by have:=hb64.2;omega⟩ (by omega) (by omega) h3.1 h3.2 hX2 hf;exact ih.after (x1:=x') (fun k hk=>by have:=hB.1 k hk;rwa [hm'] at this) (fun k hk=>by have:=hB.2.1 k hk;rwa [hm'] at this) hcl
omit hV hC hA in
theorem rep_apx {bX:MV→XS→Option MV×XS} {name:qab} {vs:List (qab×V)}:∀ (n:Nat) (f:MV) (x:XS),Apx f vs→(repX bX name n f x).2.f=false→∃ f',(repX bX name n f x).1=some f'∧Apx f' vs
 | 0,f,x,hX,_=>⟨f,by rw [repX],hX⟩
 | n+1,f,x,hX,hf=>by
  rw [repX] at hf ⊢;rcases hb:bX (updF f name unk) x with ⟨o,x'⟩;rw [hb] at hf;simp only at hf ⊢;by_cases h1:x'.f=true
  ·
   rw [if_pos h1] at hf;simp only at hf;rw [h1] at hf;cases hf
  ·
   rw [if_neg h1] at hf ⊢;cases o with
   | none=>exact ⟨f,rfl,hX⟩
   | some f'=>exact rep_apx n _ _ hX.joinl hf
theorem cov_rep {body:MS→Except Stop Unit×MS} {bX:MV→XS→Option MV×XS} {name:qab} {b:Int} (hb64:i64 b)
  (hb:∀ f x m,Inv 8192 1 m→vM m→Apx f m.vars→(bX f x).2.f=false→CovS m (bX f x) (body m)) (hle:∀ f x,XLe x (bX f x).2)
  (hI:∀ s u t,Inv 8192 1 s→vM s→body s=(.ok u,t)→Inv 0 0 t∧vM t) :
  ∀ (n:Nat) (i:Int) (f:MV) (x:XS) (m:MS) (g:Nat),i64 i→(b - i).toNat≤n→n<g→Inv 0 0 m→vM m→Apx f m.vars→(repX bX name n f x).2.f=false→CovS m (repX bX name n f x) (qcd body name b g i m)
 | n,i,f,x,m,g,hi,hn,hg,hInv,hM,hX,hf=>by
  obtain ⟨g',rfl⟩:∃ g',g=g'+1:=⟨g - 1,by omega⟩
  by_cases hib:i<b
  rotate_left
  ·
   rw [qcd,if_neg hib];obtain ⟨f',h1,h2⟩:=rep_apx n f x hX hf;exact ⟨fun k hk=>.inl hk,fun k hk=>.inl hk,fun u _=>⟨f',h1,h2⟩⟩
  obtain ⟨n',rfl⟩:∃ n',n=n'+1:=⟨n - 1,by omega⟩
  rw [repX] at hf;rw [repX,qcd,if_pos hib];rcases hT:qc2 m with ⟨z | u,m'⟩
  ·
   have:m' = { m with steps:=m.steps+1 }:=(congrArg Prod.snd hT).symm;subst this;exact CovS.err (fun q hq=>.inl hq) (fun q hq=>.inl hq)
  have hI1:=(hInv.tick hT).vars (rng_vI hi) name;have hM1:=vM_set hV hC name (vM_tick hV hC hM hT) (okX_vI i);have hm':m' = { m with steps:=m.steps+1 }:=(congrArg Prod.snd hT).symm;have hX1:Apx (updF f name unk) (qbk m'.vars name (vI i)):=by
   rw [hm'];exact hX.upd fun h=>by cases h
  have hB:=hb (updF f name unk) x { m' with vars:=qbk m'.vars name (vI i) } hI1 hM1 hX1;have hBI:=hI { m' with vars:=qbk m'.vars name (vI i) };simp only;rcases hbx:bX (updF f name unk) x with ⟨o,x'⟩;rw [hbx] at hf hB;simp only at hf hB ⊢;by_cases h1:x'.f=true
  ·
   rw [if_pos h1] at hf;simp only at hf;rw [h1] at hf;cases hf
  rw [if_neg h1] at hf ⊢;have hB:=hB (by simpa using h1);cases o with
  | none =>
   simp only at hf ⊢;rcases hbd:body { m' with vars:=qbk m'.vars name (vI i) } with ⟨z | u,m''⟩
   ·
    rw [hbd] at hB;rw [hm'] at hB;exact CovS.err hB.1 hB.2.1
   ·
    rw [hbd] at hB;obtain ⟨f',h,_⟩:=hB.2.2 u rfl;cases h
  | some f' =>
   simp only at hf ⊢;have hcl:=rep_le (name:=name) hle n' (joinF f f') x';rcases hbd:body { m' with vars:=qbk m'.vars name (vI i) } with ⟨z | u,m''⟩
   ·
    rw [hbd] at hB;rw [hm'] at hB;exact CovS.err (fun k hk=>(hB.1 k hk).imp id (hcl.r k)) (fun k hk=>(hB.2.1 k hk).imp id (hcl.w k))
   ·
    rw [hbd] at hB;obtain ⟨f2,h2,hX2⟩:=hB.2.2 u rfl;cases h2;have h3:=hBI u m'' hI1 hM1 hbd;have hw:W64 (i+1)=i+1:=W64_id (by have:=hi.1;omega) (by have:=hb64.2;omega);simp only;rw [hw];have ih:=cov_rep hb64 hb hle hI n' (i+1) (joinF f f') x' m'' g' ⟨by have:=hi.1;omega,by have:=hb64.2;omega⟩ (by omega) (by omega) h3.1 h3.2 hX2.joinr hf;exact ih.after (x1:=x') (fun k hk=>by have:=hB.1 k hk;rwa [hm'] at this) (fun k hk=>by have:=hB.2.1 k hk;rwa [hm'] at this) hcl
mutual
theorem cov_st:∀ (t:St) (d:Nat) (f:MV) (x:XS) (m:MS),okS t d→goS t→Inv 8192 1 m→vM m→Apx f m.vars→(exSt D.fmt t f x).2.f=false→CovS m (exSt D.fmt t f x) (stI D t m)
 | .mk op name mx a b body els,d,f,x,m,hO,hG,hInv,hM,hX,hf=>by
  have hG':=(goS_iff _).1 hG;have hO':=(qdk _ _).1 hO;have oA:=fun k=>okS_a hO k;have oB:=fun k=>okS_b hO k;have hop:=okS_op hO;have hmx:=fun k=>okS_max hO k;simp only [St.op,St.a,St.b,St.body,St.els,St.max] at hG' hO' oA oB hop hmx;obtain ⟨gA,gB,gbody,gels⟩:=hG';obtain ⟨_,obody,oels⟩:=hO';rw [exSt] at hf;rw [exSt];by_cases h8:op=8
  ·
   rw [if_pos h8,stI,if_neg (by omega),if_neg (by omega),if_neg (by omega),if_neg (by omega),if_neg (by omega),if_neg (by omega),if_pos h8];exact CovS.err (fun q hq=>.inl hq) (fun q hq=>.inl hq)
  rw [if_neg h8] at hf ⊢;have hfA:(exE D.fmt a f x).2.f=false:=by
   have hl1:XLe (exE D.fmt a f x).2 (exSt D.fmt (.mk op name mx a b body els) f x).2:=by
    rw [exSt,if_neg h8];rcases exE D.fmt a f x with ⟨⟨va,_ | _⟩,x1⟩
    · exact XLe.refl _
    simp only;split
    · exact XLe.refl _
    split
    · exact XLe.refl _
    split
    · exact key_le _ _ _
    split
    ·
     split
     · exact qbw body f x1
     split
     · exact qbw els f x1
     · exact br_le (qbw body f x1) fun y=>qbw els f y
    have hB:=exE_le (fmt:=D.fmt) b f x1;rcases hqB:exE D.fmt b f x1 with ⟨⟨vb,_ | _⟩,x2⟩<;>rw [hqB] at hB
    · exact hB
    simp only at hB ⊢;split
    · exact hB.trans (key_le _ _ _)
    split
    ·
     split
     · exact hB
     · exact hB.trans (cnt_le (fun f x=>qbw body f x) _ _ _ _)
    · exact hB.trans (rep_le (fun f x=>qbw body f x) _ _ _)
   refine hl1.ff ?_;rw [exSt,if_neg h8];exact hf
  have hcA:=cov_ev hV hC hA a 1 f x m (oA h8) (gA h8).1 hM hInv.rng hInv.ar hX hfA;have hIA:=hInv.eval hC (r:=4097) (gA h8);have hEA:=evE_ok hC a m (gA h8).1 hInv.rng hInv.ar;have hcA0:∀ {z m1},evE D a m=(.error z,m1)→stI D (.mk op name mx a b body els) m=(.error z,m1):=fun {z m1} h=>by
   rw [stI,h];simp only;split
   · rfl
   split
   · rfl
   split
   · rfl
   split
   · rfl
   split
   · rfl
   split
   · rfl
   · omega
  -- evaluating the first expression
  rcases hxa:exE D.fmt a f x with ⟨⟨va,_ | _⟩,x1⟩
  ·
   rw [hxa] at hcA;obtain ⟨r1,r2,_⟩:=hcA;obtain ⟨z,hz⟩:=r2 rfl;rcases hva:evE D a m with ⟨z' | v,m1⟩
   rotate_left
   · rw [hva] at hz;cases hz
   rw [hva] at r1 hEA;have hp:m1.puts=m.puts:=hEA.1.puts;simp only at r1;rw [hcA0 hva];exact CovS.err r1 (fun k hk=>.inl (by rwa [hp] at hk))
  rw [hxa] at hcA hf;simp only at hcA hf ⊢;obtain ⟨r1,_,r3⟩:=hcA;rcases hva:evE D a m with ⟨z' | v,m1⟩
  ·
   rw [hva] at r1 hEA;have hp:m1.puts=m.puts:=hEA.1.puts;have hle:XLe x1 (exSt D.fmt (.mk op name mx a b body els) f x).2:=by
    rw [exSt,if_neg h8,hxa];simp only;split
    · exact XLe.refl _
    split
    · exact XLe.refl _
    split
    · exact key_le _ _ _
    split
    ·
     split
     · exact qbw body f x1
     split
     · exact qbw els f x1
     · exact br_le (qbw body f x1) fun y=>qbw els f y
    have hB:=exE_le (fmt:=D.fmt) b f x1;rcases hqB:exE D.fmt b f x1 with ⟨⟨vb,_ | _⟩,x2⟩<;>rw [hqB] at hB
    · exact hB
    simp only at hB ⊢;split
    · exact hB.trans (key_le _ _ _)
    split
    ·
     split
     · exact hB
     · exact hB.trans (cnt_le (fun f x=>qbw body f x) _ _ _ _)
    · exact hB.trans (rep_le (fun f x=>qbw body f x) _ _ _)
   have he:CovS m (exSt D.fmt (.mk op name mx a b body els) f x) ((.error z',m1):Except Stop Unit×MS):=CovS.err (fun k hk=>(r1 k hk).imp id (hle.r k)) (fun k hk=>.inl (by rwa [hp] at hk));rw [exSt,if_neg h8,hxa] at he;rw [hcA0 hva];exact he
  rw [hva] at r1 r3 hEA hIA;simp only at r1 r3 hEA hIA ⊢;have hk1:=r3 v rfl;have hM1:=vM_ev hEA.1 hM;have hp1:m1.puts=m.puts:=hEA.1.puts;have hX1:Apx f m1.vars:=by rw [hEA.1.vars];exact hX
  have q1:∀ k∈m1.puts,k∈m.puts∨k∈x1.w:=fun k hk=>.inl (by rwa [hp1] at hk);by_cases h12:op=1∨op=2
  ·
   rw [stI,hva];simp only [h12,if_true];exact ⟨r1,q1,fun u _=>⟨_,rfl,hX1.upd hk1⟩⟩
  rw [if_neg h12] at hf ⊢;by_cases h7:op=7
  ·
   subst h7;rw [stI,hva];simp;split
   ·
    unfold emitS;split
    · exact CovS.err r1 q1
    · exact ⟨r1,q1,fun u _=>⟨f,rfl,hX1⟩⟩
   · exact CovS.err r1 q1
  rw [if_neg h7] at hf ⊢;by_cases h4:op=4
  ·
   subst h4;rw [stI,hva];simp at hf ⊢;have hl:=key_le true va x1;by_cases hv2:v.k=2
   ·
    rw [if_pos hv2];exact (cov_store hV hC hA hk1 hX1 hf V.nil).after r1 q1 hl
   ·
    rw [if_neg hv2];exact CovS.err (fun k hk=>(r1 k hk).imp id (hl.r k)) (fun k hk=>(q1 k hk).imp id (hl.w k))
  rw [if_neg h4] at hf ⊢;have hIB:=hIA.1.mono (r':=0) (p':=0) (by omega) (by omega);by_cases h5:op=5
  ·
   subst h5;rw [stI,hva];simp at hf ⊢;by_cases hc1:va.known=true∧va.v.n=1
   ·
    rw [if_pos hc1] at hf ⊢;rw [hk1 hc1.1] at hc1;by_cases hv3:v.k=3
    ·
     rw [if_pos hv3,if_pos hc1.2];exact (cov_blk body (d+1) f x1 m1 obody gbody hIB hM1 hX1 hf).after r1 q1 (qbw body f x1)
    ·
     rw [if_neg hv3];have hl:=qbw (fmt:=D.fmt) body f x1;exact CovS.err (fun k hk=>(r1 k hk).imp id (hl.r k)) (fun k hk=>(q1 k hk).imp id (hl.w k))
   rw [if_neg hc1] at hf ⊢;by_cases hc2:va.known=true
   ·
    rw [if_pos hc2] at hf ⊢;have hn:¬ v.n=1:=fun e=>hc1 ⟨hc2,by rw [hk1 hc2];exact e⟩;by_cases hv3:v.k=3
    ·
     rw [if_pos hv3,if_neg hn];exact (cov_blk els (d+1) f x1 m1 oels gels hIB hM1 hX1 hf).after r1 q1 (qbw els f x1)
    ·
     rw [if_neg hv3];have hl:=qbw (fmt:=D.fmt) els f x1;exact CovS.err (fun k hk=>(r1 k hk).imp id (hl.r k)) (fun k hk=>(q1 k hk).imp id (hl.w k))
   rw [if_neg hc2] at hf ⊢;have hl1:=qbw (fmt:=D.fmt) body f x1;have hl2:=qbw (fmt:=D.fmt) els f (qdu D.fmt body f x1).2;have hb:=cov_blk body (d+1) f x1 m1 obody gbody hIB hM1 hX1;have he:=cov_blk els (d+1) f (qdu D.fmt body f x1).2 m1 oels gels hIB hM1 hX1;unfold brX at hf ⊢;dsimp only at hf ⊢;split at hf
   · rename_i h;simp only at hf;rw [h] at hf;cases hf
   rename_i hf1;rw [if_neg hf1];split at hf
   · rename_i h;simp only at hf;rw [h] at hf;cases hf
   rename_i hf2;rw [if_neg hf2];have hb:=hb (by simpa using hf1);have he:=he (by simpa using hf2);have hl12:=hl1.trans hl2;by_cases hv3:v.k=3
   ·
    rw [if_pos hv3];by_cases hv1:v.n=1
    ·
     rw [if_pos hv1];have hb':=hb.after r1 q1 hl1;refine ⟨fun k hk=>(hb'.1 k hk).imp id (hl2.r k),fun k hk=>(hb'.2.1 k hk).imp id (hl2.w k),fun u hu=>?_⟩;obtain ⟨g,h1,h2⟩:=hb'.2.2 u hu;rw [h1];rcases hE2:(qdu D.fmt els f (qdu D.fmt body f x1).2).1 with _ | g2
     · exact ⟨g,rfl,h2⟩
     · exact ⟨_,rfl,h2.joinl⟩
    ·
     rw [if_neg hv1];have he':=he.after (fun k hk=>(r1 k hk).imp id (hl1.r k)) (fun k hk=>(q1 k hk).imp id (hl1.w k)) hl2;refine ⟨he'.1,he'.2.1,fun u hu=>?_⟩;obtain ⟨g,h1,h2⟩:=he'.2.2 u hu;rw [h1];rcases hE2:(qdu D.fmt body f x1).1 with _ | g2
     · exact ⟨g,rfl,h2⟩
     · exact ⟨_,rfl,h2.joinr⟩
   ·
    rw [if_neg hv3];exact CovS.err (fun k hk=>(r1 k hk).imp id (hl12.r k)) (fun k hk=>(q1 k hk).imp id (hl12.w k))
  rw [if_neg h5] at hf ⊢;have h36:op=3∨op=6:=by omega
  have hfB:(exE D.fmt b f x1).2.f=false:=by
   have hB:=exE_le (fmt:=D.fmt) b f x1;rcases hxb:exE D.fmt b f x1 with ⟨⟨vb,_ | _⟩,x2⟩
   · rw [hxb] at hf;exact hf
   rw [hxb] at hf;simp only at hf ⊢;split at hf
   · exact (key_le _ _ _).ff hf
   split at hf
   ·
    split at hf
    · exact hf
    · exact (cnt_le (fun f x=>qbw body f x) _ _ _ _).ff hf
   · exact (rep_le (fun f x=>qbw body f x) _ _ _).ff hf
  have hcB:=cov_ev hV hC hA b 1 f x1 m1 (oB h36) (gB h36).1 hM1 hIA.1.rng hIA.1.ar hX1 hfB;have hIC:=hIA.1.eval hC (r:=2) (gB h36);have hEB:=evE_ok hC b m1 (gB h36).1 hIA.1.rng hIA.1.ar;have hlB:=exE_le (fmt:=D.fmt) b f x1;have hcB0:∀ {o z m2},evE D b m1=(.error z,m2)→CovS m o ((.error z,m2):Except Stop Unit×MS)→CovS m o (stI D (.mk op name mx a b body els) m):=fun {o z m2} h he=>by
   have e:stI D (.mk op name mx a b body els) m=(.error z,m2):=by
    rw [stI,hva];simp only;rw [h];simp only;rcases h36 with rfl | rfl
    · simp
    · simp
   rw [e];exact he
  rcases hxb:exE D.fmt b f x1 with ⟨⟨vb,_ | _⟩,x2⟩
  ·
   rw [hxb] at hcB hlB;obtain ⟨s1,s2,_⟩:=hcB;obtain ⟨z,hz⟩:=s2 rfl;simp only at s1 hlB ⊢;rcases hvb:evE D b m1 with ⟨z' | w,m2⟩
   rotate_left
   · rw [hvb] at hz;cases hz
   rw [hvb] at s1 hEB;have hp2:m2.puts=m1.puts:=hEB.1.puts;exact hcB0 hvb (CovS.err (fun k hk=>(s1 k hk).elim (fun h=>(r1 k h).imp id (hlB.r k)) .inr) (fun k hk=>(q1 k (by rwa [hp2] at hk)).imp id (hlB.w k)))
  rw [hxb] at hcB hf hlB;rcases hvb:evE D b m1 with ⟨z' | w,m2⟩
  ·
   rw [hvb] at hcB hEB;obtain ⟨s1,_,_⟩:=hcB;have hp2:m2.puts=m1.puts:=hEB.1.puts;simp only at s1 hlB ⊢;have hle:XLe x2 (if op=3 then ((if (keyX true va x2).1 then some f else none,(keyX true va x2).2):Option MV×XS)
     else if va.known=true∧vb.known=true then
      (if va.v.n<vb.v.n∧((qda vb.v.n va.v.n).2≠0∨mx<(qda vb.v.n va.v.n).1) then (none,x2)
      else cntX (fun f x=>qdu D.fmt body f x) name (vb.v.n - va.v.n).toNat va.v.n f x2)
     else repX (fun f x=>qdu D.fmt body f x) name mx.toNat f x2).2:=by
    split
    · exact key_le _ _ _
    split
    ·
     split
     · exact XLe.refl _
     · exact cnt_le (fun f x=>qbw body f x) _ _ _ _
    · exact rep_le (fun f x=>qbw body f x) _ _ _
   have hl2:=hlB.trans hle;exact hcB0 hvb (CovS.err (fun k hk=>(s1 k hk).elim (fun h=>(r1 k h).imp id (hl2.r k)) fun h=>.inr (hle.r k h)) (fun k hk=>(q1 k (by rwa [hp2] at hk)).imp id (hl2.w k)))
  rw [hvb] at hcB hEB hIC;rw [stI,hva];simp only;rw [hvb];simp only at hcB hf hEB hIC hlB ⊢;obtain ⟨s1,_,s3⟩:=hcB;have hk2:=s3 w rfl;have hM2:=vM_ev hEB.1 hM1;have hp2:m2.puts=m1.puts:=hEB.1.puts;have hX2:Apx f m2.vars:=by rw [hEB.1.vars];exact hX1
  have r2:∀ k∈m2.reads,k∈m.reads∨k∈x2.r:=fun k hk=>(s1 k hk).elim (fun h=>(r1 k h).imp id (hlB.r k)) .inr;have q2:∀ k∈m2.puts,k∈m.puts∨k∈x2.w:=fun k hk=>(q1 k (by rwa [hp2] at hk)).imp id (hlB.w k);by_cases h3:op=3
  ·
   subst h3;simp at hf ⊢;have hl:=key_le true va x2;by_cases hv2:v.k=2∧(w.k=1∨w.k=2)
   ·
    rw [if_pos hv2];exact (cov_store hV hC hA hk1 hX2 hf w).after r2 q2 hl
   ·
    rw [if_neg hv2];exact CovS.err (fun k hk=>(r2 k hk).imp id (hl.r k)) (fun k hk=>(q2 k hk).imp id (hl.w k))
  have h6:op=6:=by omega
  subst h6;simp only [show ¬ ((6:Int)=3) by decide,show ¬ ((6:Int)=1∨(6:Int)=2) by decide,show ¬ ((6:Int)=4) by decide,show ¬ ((6:Int)=5) by decide,if_false,if_true] at hf ⊢;obtain ⟨hm1,hm2⟩:=hmx rfl;have hv64:=(hIA.2 v rfl).1;have hw64:=(hIC.2 w rfl).1;have hI0:=hIC.1.mono (r':=0) (p':=0) (by omega) (by omega);have hB:=fun f x m (h1:Inv 8192 1 m) h2 h3 h4=>cov_blk body (d+1) f x m obody gbody (h1.mono (by omega) (by omega)) h2 h3 h4;have hBI:∀ s u t,Inv 8192 1 s→vM s→qcu D body s=(.ok u,t)→Inv 0 0 t∧vM t:=fun s u t hs hm hg=>⟨blkI_ok hC body s u t gbody (hs.mono (by omega) (by omega)) hg,vM_blk hV hC body (d+1) s u t obody gbody (hs.mono (by omega) (by omega)) hm hg⟩
  by_cases hkk:va.known=true∧vb.known=true
  ·
   rw [if_pos hkk] at hf ⊢;rw [hk1 hkk.1,hk2 hkk.2] at hf ⊢;by_cases hmany:tooMany v.n w.n mx
   ·
    have hmany':=(many_iff hv64 hw64 hm1 hm2).1 hmany;rw [if_pos hmany',if_pos hmany];by_cases hk11:v.k=1∧w.k=1
    ·
     rw [if_pos hk11];exact CovS.err r2 q2
    ·
     rw [if_neg hk11];exact CovS.err r2 q2
   ·
    have hmany':=fun h=>hmany ((many_iff hv64 hw64 hm1 hm2).2 h);rw [if_neg hmany'] at hf ⊢;rw [if_neg hmany];have hcl:=cnt_le (name:=name) (fun f x=>qbw (fmt:=D.fmt) body f x) (w.n - v.n).toNat v.n f x2;have hfew:=few hv64 hw64 hm1 hm2 hmany;by_cases hk11:v.k=1∧w.k=1
    ·
     rw [if_pos hk11];exact (cov_cnt hV hC hA hw64 (fun f x m=>hB f x m) (fun f x=>qbw body f x) hBI _ _ f x2 m2 16386 hv64 rfl (by omega) hI0 hM2 hX2 hf).after r2 q2 hcl
    ·
     rw [if_neg hk11];exact CovS.err (fun k hk=>(r2 k hk).imp id (hcl.r k)) (fun k hk=>(q2 k hk).imp id (hcl.w k))
  ·
   rw [if_neg hkk] at hf ⊢;have hcl:=rep_le (name:=name) (fun f x=>qbw (fmt:=D.fmt) body f x) mx.toNat f x2;have herr:∀ z,CovS m (repX (fun f x=>qdu D.fmt body f x) name mx.toNat f x2) ((.error z,m2):Except Stop Unit×MS):=fun z=>CovS.err (fun k hk=>(r2 k hk).imp id (hcl.r k)) (fun k hk=>(q2 k hk).imp id (hcl.w k));by_cases hk11:v.k=1∧w.k=1
   ·
    rw [if_pos hk11];by_cases hmany:tooMany v.n w.n mx
    ·
     rw [if_pos hmany];exact herr _
    ·
     rw [if_neg hmany];have hfew:=few hv64 hw64 hm1 hm2 hmany;exact (cov_rep hV hC hA hw64 (fun f x m=>hB f x m) (fun f x=>qbw body f x) hBI _ v.n f x2 m2 16386 hv64 (by omega) (by omega) hI0 hM2 hX2 hf).after r2 q2 hcl
   ·
    rw [if_neg hk11];exact herr _
theorem cov_blk:∀ (l:List St) (d:Nat) (f:MV) (x:XS) (m:MS),okL l d→(∀ t∈l,goS t)→Inv 0 0 m→vM m→Apx f m.vars→(qdu D.fmt l f x).2.f=false→CovS m (qdu D.fmt l f x) (qcu D l m)
 | [],d,f,x,m,_,_,_,_,hX,_=>by
  rw [qdu,qcu];exact ⟨fun k hk=>.inl hk,fun k hk=>.inl hk,fun u _=>⟨f,rfl,hX⟩⟩
 | t::l,d,f,x,m,hO,hG,hInv,hM,hX,hf=>by
  rw [qdu] at hf;rw [qdu,qcu];rcases hT:qc2 m with ⟨z | u,m'⟩
  ·
   have:m' = { m with steps:=m.steps+1 }:=(congrArg Prod.snd hT).symm;subst this;exact CovS.err (fun q hq=>.inl hq) (fun q hq=>.inl hq)
  have hm':m' = { m with steps:=m.steps+1 }:=(congrArg Prod.snd hT).symm;have hI1:=hInv.tick hT;have hM1:=vM_tick hV hC hM hT;have hX1:Apx f m'.vars:=by rw [hm'];exact hX
  have hS:=cov_st t d f x m' (hO t (by simp)) (hG t (by simp)) hI1 hM1 hX1;have hr':m'.reads=m.reads:=by rw [hm']
  have hp':m'.puts=m.puts:=by rw [hm']
  simp only;rcases hxs:exSt D.fmt t f x with ⟨_ | f',x'⟩
  ·
   rw [hxs] at hf hS;have hS:=hS hf;rcases hst:stI D t m' with ⟨z | u,m''⟩
   ·
    rw [hst] at hS;exact CovS.err (by have:=hS.1;rwa [hr'] at this) (by have:=hS.2.1;rwa [hp'] at this)
   ·
    rw [hst] at hS;obtain ⟨f',h,_⟩:=hS.2.2 u rfl;cases h
  ·
   rw [hxs] at hf hS;simp only at hf hS ⊢;have hl:=qbw (fmt:=D.fmt) l f' x';have hS:=hS (hl.ff hf);have g1:=hS.1;have g2:=hS.2.1;rw [hr'] at g1;rw [hp'] at g2;rcases hst:stI D t m' with ⟨z | u,m''⟩
   ·
    rw [hst] at g1 g2;exact CovS.err (fun k hk=>(g1 k hk).imp id (hl.r k)) (fun k hk=>(g2 k hk).imp id (hl.w k))
   ·
    rw [hst] at hS g1 g2;obtain ⟨f2,h2,hX2⟩:=hS.2.2 u rfl;cases h2;have hI2:=stI_ok hC t m' u m'' (hG t (by simp)) hI1 hst;have hM2:=vM_st hV hC t d m' u m'' (hO t (by simp)) (hG t (by simp)) hI1 hM1 hst;exact (cov_blk l d f' x' m'' (fun y hy=>hO y (by simp [hy])) (fun y hy=>hG y (by simp [hy])) hI2 hM2 hX2 hf).after g1 g2 hl
end
end
end Go.Cw

namespace Go.Cw
open Go Go.Abs
theorem lt_less:∀ {a b:List UInt8},a<b→Op.bytesLess a b=true
 | [],[],h=>by exact absurd h (List.lt_irrefl _)
 | [],_::_,_=>rfl
 | _::_,[],h=>by exact absurd h (List.not_lt_nil _)
 | x::a,y::b,h=>by
  simp only [Op.bytesLess,Bool.or_eq_true,Bool.and_eq_true,decide_eq_true_eq,beq_iff_eq];rcases List.cons_lt_cons_iff.1 h with h | ⟨h,g⟩
  · exact .inl h
  · exact .inr ⟨h,lt_less g⟩
theorem asc_sortS {l:List qab} (hn:l.Nodup):ascS (qcz l):=by
 have h1:=sortS_pw l;have h2:((bysL l).mergeSort fun x y=>decide (x≤y)).Nodup:=by
  refine (List.mergeSort_perm _ _).nodup_iff.2 ?_;unfold bysL;exact hn.map (f:=fun x:qab=>x.data.toList) fun a b hab e=>hab (by
   cases a;cases b;simp at e;rw [e])
 have h3:=h1.imp₂ (S:=fun a b=>a≠b) (R:=fun a b=>a≤b) (T:=fun a b:List UInt8=>a<b) (fun a b hab hne=>by
  by_cases h:a<b
  · exact h
  · exact absurd (List.le_antisymm hab (List.not_lt.1 h)) hne) h2
 unfold qcz ofBys ascS;refine List.pairwise_map.2 (h3.imp fun {a b} h=>?_);unfold sLt;have:=lt_less h;simpa [ByteArray.toList_eq] using this
structure KO (x:XS):Prop where
 rn:x.r.Nodup
 wn:x.w.Nodup
 rk:∀ k∈x.r,qdt k=true
 wk:∀ k∈x.w,qdt k=true
theorem ko_XK:XK fun x y=>KO x→KO y where
 refl:=fun _ h=>h
 trans:=fun h g k=>g (h k)
 key:=fun wr a x h=>by
  unfold keyX;split
  · exact ⟨h.rn,h.wn,h.rk,h.wk⟩
  split
  · exact h
  ·
   rename_i _ hk;have hk:qdt a.v.s=true:=by simpa using hk
   cases wr
   · exact ⟨addS_nodup h.rn _,h.wn,fun k hm=>(mem_addS.1 hm).elim (h.rk k) fun e=>e▸hk,h.wk⟩
   · exact ⟨h.rn,addS_nodup h.wn _,h.rk,fun k hm=>(mem_addS.1 hm).elim (h.wk k) fun e=>e▸hk⟩
theorem ko0:KO ⟨[],[],false⟩:=⟨by simp,by simp,by simp,by simp⟩
theorem ko_foot {x:XS} (h:KO x) (hr:x.r.length≤64) (hw:x.w.length≤64):qdb false (qcz x.r) (qcz x.w)=true:=by
 unfold qdb;rw [if_neg (by simp)];simp only [Bool.and_eq_true,decide_eq_true_eq,sortS_len];exact ⟨⟨(ascK_iff _ _).2 ⟨fun k hk=>h.rk k (mem_sortS.1 hk),asc_sortS h.rn,fun k h=>by cases h⟩,by omega⟩,⟨(ascK_iff _ _).2 ⟨fun k hk=>h.wk k (mem_sortS.1 hk),asc_sortS h.wn,fun k h=>by cases h⟩,by omega⟩⟩
theorem apx_args:∀ (ps:List Param) (vs:List V) (f:MV) (m:List (qab×V)),Apx f m→Apx (initF ps vs f) (qcj ps vs m)
 | [],_,f,m,h=>by simpa [initF,qcj] using h
 | _::_,[],f,m,h=>by simpa [initF,qcj] using h
 | p::ps,v::vs,f,m,h=>by
  rw [initF,qcj];exact apx_args ps vs _ _ (h.upd fun _=>rfl)
section
variable {fmt:Int→qab} {p:Proc} {args:List V}
abbrev exP (fmt:Int→qab) (p:Proc) (args:List V):XS:=(qdu fmt p.body (initF p.params args fun _=>none) ⟨[],[],false⟩).2
theorem exP_ko:KO (exP fmt p args):=xk_Bl ko_XK p.body _ _ ko0
theorem statS_ok (h:(statS fmt p args).2=0):qbx p=0∧qcq p args=0∧(exP fmt p args).f=false∧(exP fmt p args).r.length≤64∧(exP fmt p args).w.length≤64∧(statS fmt p args).1=⟨false,qcz (exP fmt p args).r,qcz (exP fmt p args).w⟩:=by
 unfold statS at h ⊢;split at h
 · cases h
 rename_i h1;rw [if_neg h1];split at h
 · cases h
 rename_i h2;rw [if_neg h2];split at h
 · cases h
 rename_i h3;rw [if_neg h3];exact ⟨by omega,by omega,by simpa using h2,Nat.le_of_not_lt fun hh=>h3 (.inl hh),Nat.le_of_not_lt fun hh=>h3 (.inr hh),rfl⟩
theorem statS_no (h:(statS fmt p args).2≠0):(statS fmt p args).1=⟨false,[],[]⟩:=by
 unfold statS at h ⊢;split
 · rfl
 split
 · rfl
 split
 · rfl
 rename_i h1 h2 h3;rw [if_neg h1,if_neg h2,if_neg h3] at h;exact (h rfl).elim
theorem statS_foot (h:(statS fmt p args).2=0):(statS fmt p args).1.all=false∧qdb false (statS fmt p args).1.reads (statS fmt p args).1.writes=true:=by
 obtain ⟨_,_,_,h4,h5,h6⟩:=statS_ok h;rw [h6];exact ⟨rfl,ko_foot exP_ko h4 h5⟩
variable {st:List Pr}
theorem statS_cov (hI:RunIn fmt p args st) (hs:qbd st=true) (h:(statS fmt p args).2=0) :
  (∀ k∈(runS fmt p args st qdm).reads,k∈(statS fmt p args).1.reads)∧∀ k∈(runS fmt p args st qdm).puts,k∈(statS fmt p args).1.writes:=by
 obtain ⟨h1,h2,h3,h4,h5,h6⟩:=statS_ok h;have hr:runOk p args st qdm:=(qb9 _ _ _ _).2 ⟨h1,h2,hs,footOk_all⟩;have hV:vC (cfgR fmt st qdm):=vC_of hI hs;have hcov:=cov_blk (D:=cfgR fmt st qdm) hV (fun q hq=>hI.st q hq) rfl p.body 1 (initF p.params args fun _=>none) ⟨[],[],false⟩ (ms0 p args) (cost_okL h1) (cost_goS h1 hI.body) (inv0 hI) (vM0 h2) (apx_args _ _ _ _ fun s a h=>by cases h) h3;rw [qco hr,h6,done_reads,done_puts];exact ⟨fun k hk=>mem_sortS.2 ((hcov.1 k hk).resolve_left (by simp)),fun k hk=>mem_sortS.2 ((hcov.2.1 k hk).resolve_left (by simp))⟩
theorem run_within (hr:runOk p args st qdm) {ft:Foot} (ha:ft.all=false) (hf:qdb false ft.reads ft.writes=true) (h1:∀ k∈(runS fmt p args st qdm).reads,k∈ft.reads) (h2:∀ k∈(runS fmt p args st qdm).puts,k∈ft.writes):runS fmt p args st ft=runS fmt p args st qdm:=by
 have hr':=(qb9 _ _ _ _).1 hr;have hr2:runOk p args st ft:=(qb9 _ _ _ _).2 ⟨hr'.1,hr'.2.1,hr'.2.2.1,by rw [ha];exact hf⟩;rw [qco hr,done_reads] at h1;rw [qco hr,done_puts] at h2;rw [qco hr2,qco hr];obtain ⟨fa,fr,fw⟩:=ft;simp only at ha;subst ha;exact congrArg doneS (two_blk (alike_recon (cfgR fmt st qdm) fr fw rfl) p.body (ms0 p args) ⟨h1,h2⟩)
theorem stat_sound (hI:RunIn fmt p args st) (hs:qbd st=true) (h:(statS fmt p args).2=0):runS fmt p args st (statS fmt p args).1=runS fmt p args st qdm:=by
 obtain ⟨h1,h2,_⟩:=statS_ok h;have hc:=statS_cov hI hs h;have hf:=statS_foot h;exact run_within ((qb9 _ _ _ _).2 ⟨h1,h2,hs,footOk_all⟩) hf.1 hf.2 hc.1 hc.2
end
end Go.Cw

namespace Go.Cw
open Go Go.Abs
abbrev Ex.z:Ex:=.mk 0 0 em []
abbrev St.z:St:=.mk 0 em 0 Ex.z Ex.z [] []
structure Vt where
 isS:Bool
 t:St
 d:Nat
 e:Ex
 root:Bool
def Vt.c (v:Vt):List AV:=[Bo v.isS,I v.t.op,S v.t.name,I v.t.max,I v.t.a.op,I v.t.a.n,S v.t.a.s,.slice (v.t.a.args.map Ex.c),I v.t.b.op,I v.t.b.n,S v.t.b.s,.slice (v.t.b.args.map Ex.c),.slice (v.t.body.map St.c),.slice (v.t.els.map St.c),I v.d,I v.e.op,I v.e.n,S v.e.s,.slice (v.e.args.map Ex.c),Bo v.root]
def Vt.ofS (t:St) (d:Nat):Vt:=⟨true,t,d,Ex.z,false⟩
def Vt.ofE (e:Ex) (r:Bool):Vt:=⟨false,St.z,0,e,r⟩
section
variable {σ:Type} (fS:σ→St→Nat→σ) (fR:σ→Ex→σ)
end
end Go.Cw
