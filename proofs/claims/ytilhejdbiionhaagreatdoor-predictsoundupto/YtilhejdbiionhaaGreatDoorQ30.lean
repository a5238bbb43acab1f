/- Part 30 of a proof: CwVb, CwVc, CwVd, CwV, CwMv, CwMw, CwOc, CwPi, CwPk -/
import Derived.Lib.ItoaLen
import Derived.Test.YtilhejdbiionhaaGreatDoorQ27
import Derived.Test.YtilhejdbiionhaaGreatDoorQ29
set_option linter.all false

namespace Go.Cw
open Go Go.Abs
theorem kGet_app {α:Type}:∀ (l:List (qab×α)) (k n:qab) (v:α),qa7 (l++[(n,v)]) k=match qa7 l k with | some x=>some x | none=>if n=k then some v else none
 | [],k,n,v=>by simp [qa7]
 | p::l,k,n,v=>by
  simp only [List.cons_append,qa7];split
  · rfl
  · exact kGet_app l k n v
structure TR (ts:TS) (vars:Vis) (loops:List qab):Prop where
 vis:∀ k,qa7 ts.visible k=qa7 vars k
 lp:∀ k,k∈qba vars→(qa7 ts.loops k=some true↔k∈loops)
 lin:∀ k∈loops,k∈qba ts.all
 lk:∀ k v,qa7 ts.loops k=some v→k∈qba ts.all
 ty:∀ k v,qa7 vars k=some v→1≤v∧v≤3
theorem TR.keys {ts:TS} {vars:Vis} {loops:List qab} (h:TR ts vars loops) (hT:TOk ts) {k:qab} (hk:k∉qba ts.all):k∉qba vars:=fun hm=>by
 rcases hx:qa7 vars k with _ | v
 · exact qcs.1 hx hm
 ·
  rw [← h.vis] at hx;have:=hT.sub _ _ hx;rw [qcs.2 hk] at this;cases this
theorem keysV_app {α:Type} (l:List (qab×α)) (k:qab) (v:α) (x:qab):x∈qba (l++[(k,v)])↔x∈qba l∨x=k:=by
 simp [qba]
theorem TR.decl {ts:TS} {vars:Vis} {loops:List qab} (h:TR ts vars loops) (hT:TOk ts) {k:qab} (hk:k∉qba ts.all) {ty:Int} (h1:1≤ty) (h2:ty≤3):TR (ts.decl k ty) (vars++[(k,ty)]) loops:=by
 have hv:=h.keys hT hk;refine ⟨fun x=>?_,fun x hx=>?_,fun x hx=>(qbv _ _ _ _).2 (.inr (h.lin x hx)),fun x v hx=>(qbv _ _ _ _).2 (.inr (h.lk x v hx)),fun x v hx=>?_⟩
 ·
  simp only [TS.decl];rw [qbl,kGet_app,h.vis];by_cases e:k=x
  · subst e;rw [if_pos rfl,qcs.2 hv,if_pos rfl]
  · rw [if_neg e];rcases qa7 vars x with _ | v<;>simp [e]
 ·
  rcases (keysV_app _ _ _ _).1 hx with hx | rfl
  · exact h.lp x hx
  ·
   simp only [TS.decl];constructor
   · intro hl;exact (hk (h.lk _ _ hl)).elim
   · intro hl;exact (hk (h.lin _ hl)).elim
 ·
  rw [kGet_app] at hx;rcases hg:qa7 vars x with _ | w
  ·
   rw [hg] at hx;simp only at hx;split at hx
   · cases hx;exact ⟨h1,h2⟩
   · cases hx
  · rw [hg] at hx;cases hx;exact h.ty x _ hg
theorem TR.loop {ts:TS} {vars:Vis} {loops:List qab} (h:TR ts vars loops) (hT:TOk ts) {k:qab} (hk:k∉qba ts.all):TR ⟨qbk ts.visible k 1,qbk ts.loops k true,qbk ts.all k 1⟩ (vars++[(k,1)]) (loops++[k]):=by
 have hd:=h.decl hT hk (ty:=1) (by decide) (by decide);refine ⟨hd.vis,fun x hx=>?_,fun x hx=>?_,fun x v hx=>?_,hd.ty⟩
 ·
  simp only;rw [qbl];by_cases e:k=x
  · subst e;simp
  ·
   rw [if_neg e,List.mem_append,List.mem_singleton];rcases (keysV_app _ _ _ _).1 hx with hx | rfl
   ·
    rw [h.lp x hx];exact ⟨.inl,fun g=>g.elim id fun g=>(e g.symm).elim⟩
   · exact (e rfl).elim
 ·
  rw [List.mem_append,List.mem_singleton] at hx;rcases hx with hx | rfl
  · exact (qbv _ _ _ _).2 (.inr (h.lin x hx))
  · exact (qbv _ _ _ _).2 (.inl rfl)
 ·
  simp only at hx;rw [qbl] at hx;split at hx
  · rename_i e;exact (qbv _ _ _ _).2 (.inl e.symm)
  · exact (qbv _ _ _ _).2 (.inr (h.lk x v hx))
def letsL:List St→List qab
 | []=>[]
 | t::l=>if t.op=1 then t.name::letsL l else letsL l
theorem letsL_nm:∀ (l:List St) (k:qab),k∈letsL l→k∈nmL l
 | [],k,h=>by cases h
 | t::l,k,h=>by
  rw [nmL,nmS_eq];rw [letsL] at h;split at h
  ·
   rename_i h1;rw [if_pos (.inl h1)];rcases List.mem_cons.1 h with rfl | h
   · simp
   · have:=letsL_nm l k h;simp [this]
  · have:=letsL_nm l k h;simp [this]
theorem kGet_del {α:Type}:∀ (l:List (qab×α)) (n k:qab),(qba l).Nodup→qa7 (kDel l n) k=if n=k then none else qa7 l k
 | [],n,k,_=>by simp [kDel,qa7]
 | p::l,n,k,h=>by
  have h':p.1∉qba l∧(qba l).Nodup:=List.nodup_cons.1 h;rw [kDel];by_cases e:p.1=n
  ·
   rw [if_pos e];by_cases e2:n=k
   · rw [if_pos e2,qcs,← e2,← e];exact h'.1
   · rw [if_neg e2,qa7,if_neg (by rw [e];exact e2)]
  ·
   rw [if_neg e,qa7,qa7,kGet_del l n k h'.2];by_cases e2:n=k
   · rw [if_pos e2,if_neg (by rw [← e2];exact e),if_pos e2]
   · rw [if_neg e2,if_neg e2]
theorem delLets_get:∀ (l:List St) (vis:Vis) (k:qab),(qba vis).Nodup→qa7 (qdc l vis) k=if hasK (letsL l) k=true then none else qa7 vis k
 | [],vis,k,_=>by simp [qdc,letsL,hasK,anyL]
 | t::l,vis,k,h=>by
  rw [qdc,letsL];split
  ·
   rename_i h1;rw [delLets_get l _ k (h.sublist ((kDel_sub _ _).map _)),kGet_del _ _ _ h];have hc:hasK (t.name::letsL l) k=(decide (t.name=k)||hasK (letsL l) k):=rfl;rw [hc];by_cases e:hasK (letsL l) k=true
   · simp [e]
   ·
    by_cases e2:t.name=k
    · simp [e2]
    · simp [e,e2]
  · exact delLets_get l vis k h
structure SV (ns ls:List qab) (ts ts':TS):Prop where
 vis:∀ k,k∉ls→qa7 ts'.visible k=qa7 ts.visible k
 lp:∀ k,k∉ns→qa7 ts'.loops k=qa7 ts.loops k
 lk:(∀ k v,qa7 ts.loops k=some v→k∈qba ts.all)→∀ k v,qa7 ts'.loops k=some v→k∈qba ts'.all
theorem SV.refl (ns ls:List qab) (ts:TS):SV ns ls ts ts:=⟨fun _ _=>rfl,fun _ _=>rfl,id⟩
theorem SV.blk {l:List St} {f:TS→Int×TS} {ts:TS} (hT:TOk ts) (hf:fresh (nmL l) ts) (hg:TGo (nmL l) ts (f ts).2) (hs:SV (nmL l) (letsL l) ts (f ts).2) (h0:(f ts).1=0):SV (nmL l) [] ts (qcm l f ts).2:=by
 unfold qcm;rw [if_neg (by simp [h0])];refine ⟨fun k _=>?_,hs.lp,hs.lk⟩;simp only;rw [delLets_get _ _ _ hg.ok.nod];by_cases e:hasK (letsL l) k=true
 ·
  rw [if_pos e];have hn:=hf.2 k (letsL_nm l k (hasK_iff.1 e));rcases hx:qa7 ts.visible k with _ | v
  · rfl
  ·
   have:=hT.sub _ _ hx;rw [qcs.2 hn] at this;cases this
 ·
  rw [if_neg e];exact hs.vis k (fun g=>e (hasK_iff.2 g))
theorem blk_zero {l:List St} {f:TS→Int×TS} {ts:TS} (h:(qcm l f ts).1=0):(f ts).1=0:=by
 unfold qcm at h;by_cases hb:(f ts).1≠0
 · rw [if_pos hb] at h;exact (hb h).elim
 · simpa using hb
mutual
theorem sv_st:∀ (t:St) (ts:TS),TOk ts→fresh (nmS t) ts→(stT t ts).1=0→SV (nmS t) (if t.op=1 then [t.name] else []) ts (stT t ts).2
 | .mk op name mx a b body els,ts,hT,hf,h0=>by
  obtain ⟨t,ht⟩:∃ t:St,t=.mk op name mx a b body els:=⟨_,rfl⟩
  have hbody:t.body=body:=by rw [ht];rfl
  have hels:t.els=els:=by rw [ht];rfl
  rw [← ht] at h0 hf ⊢;rw [nmS_eq] at hf ⊢;rw [stT_eq] at h0 ⊢;unfold stStep at h0 ⊢;by_cases he:(opsT ts.visible t).2.2≠0
  · rw [if_pos he] at h0;exact (he h0).elim
  rw [if_neg he] at h0 ⊢;by_cases h1:t.op=1
  ·
   rw [if_pos h1] at h0 ⊢;rw [if_pos h1];refine ⟨fun k hk=>?_,fun k hk=>rfl,fun g k v hv=>(qbv _ _ _ _).2 (.inr (g k v hv))⟩;simp only [TS.decl];rw [qbl,if_neg (fun e=>hk (by simp [e]))]
  rw [if_neg h1] at h0 ⊢;rw [if_neg h1];by_cases h2:t.op=2
  ·
   rw [if_pos h2];rcases qa7 ts.visible t.name with _ | ty
   · exact .refl _ _ _
   · exact .refl _ _ _
  rw [if_neg h2] at h0 ⊢;by_cases h3:t.op=3
  · rw [if_pos h3];exact .refl _ _ _
  rw [if_neg h3] at h0 ⊢;by_cases h4:t.op=4
  · rw [if_pos h4];exact .refl _ _ _
  rw [if_neg h4] at h0 ⊢;by_cases h7:t.op=7
  · rw [if_pos h7];exact .refl _ _ _
  rw [if_neg h7] at h0 ⊢;by_cases h5:t.op=5
  ·
   rw [if_pos h5] at h0 ⊢;by_cases h6:(opsT ts.visible t).1≠3
   · rw [if_pos h6] at h0;simp at h0
   rw [if_neg h6] at h0 ⊢;by_cases h8:(qcm t.body (qc9 t.body) ts).1≠0
   · rw [if_pos h8] at h0;exact (h8 h0).elim
   rw [if_neg h8] at h0 ⊢;rw [if_neg (by omega),List.nil_append] at hf ⊢;have z1:=blk_zero (by simpa using h8);have z2:=blk_zero h0;have g1:=TGo.blk (l:=t.body) (f:=qc9 t.body) (fun g=>go_seq t.body ts hT hf.left g) (by simpa using h8);have hf2:=hf.right g1;have s1:=SV.blk hT hf.left (go_seq t.body ts hT hf.left z1) (by rw [hbody] at hf z1 ⊢;exact sv_seq body ts hT hf.left z1) z1;have s2:=SV.blk g1.ok hf2 (go_seq t.els _ g1.ok hf2 z2) (by rw [hels] at hf2 z2 ⊢;exact sv_seq els _ g1.ok hf2 z2) z2;refine ⟨fun k hk=>(s2.vis k hk).trans (s1.vis k hk),fun k hk=>?_,fun g=>s2.lk (s1.lk g)⟩;simp only [List.mem_append,not_or] at hk;exact (s2.lp k hk.2).trans (s1.lp k hk.1)
  rw [if_neg h5] at h0 ⊢;by_cases h6:t.op=6
  ·
   rw [if_pos h6] at h0 ⊢;by_cases h8:(opsT ts.visible t).1≠1∨(opsT ts.visible t).2.1≠1
   · rw [if_pos h8] at h0;simp at h0
   rw [if_neg h8] at h0 ⊢;rw [if_pos (.inr h6)] at hf ⊢;have g0:=TGo.set hT (hf.2 t.name (by simp)) 1 (qbk ts.loops t.name true);have hfb:=(hf.right g0).left;have z1:=blk_zero h0;have g1:=go_seq t.body _ g0.ok hfb z1;have s1:=SV.blk g0.ok hfb g1 (by rw [hbody] at hfb z1 ⊢;exact sv_seq body _ g0.ok hfb z1) z1;have g1':=TGo.blk (l:=t.body) (f:=qc9 t.body) (fun g=>go_seq t.body _ g0.ok hfb g) h0;refine ⟨fun k _=>?_,fun k hk=>?_,fun g=>?_⟩
   ·
    simp only;rw [kGet_del _ _ _ g1'.ok.nod];by_cases e:t.name=k
    ·
     rw [if_pos e];have hn:=hf.2 t.name (by simp);rcases hx:qa7 ts.visible k with _ | v
     · rfl
     ·
      have:=hT.sub _ _ hx;rw [← e,qcs.2 hn] at this;cases this
    ·
     rw [if_neg e,s1.vis k (by simp)];simp only;rw [qbl,if_neg e]
   ·
    simp only [List.mem_append,List.mem_singleton,not_or] at hk;simp only;rw [s1.lp k hk.2.1];simp only;rw [qbl,if_neg (fun e=>hk.1 e.symm)]
   ·
    simp only;refine s1.lk fun k v hv=>?_;simp only at hv ⊢;rw [qbl] at hv;split at hv
    · rename_i e;exact (qbv _ _ _ _).2 (.inl e.symm)
    · exact (qbv _ _ _ _).2 (.inr (g k v hv))
  ·
   rw [if_neg h6];exact .refl _ _ _
theorem sv_seq:∀ (l:List St) (ts:TS),TOk ts→fresh (nmL l) ts→(qc9 l ts).1=0→SV (nmL l) (letsL l) ts (qc9 l ts).2
 | [],ts,hT,hf,h0=>by rw [qc9];exact .refl _ _ _
 | t::l,ts,hT,hf,h0=>by
  rw [qc9] at h0 ⊢;rw [nmL] at hf ⊢;by_cases he:(stT t ts).1≠0
  · rw [if_pos he] at h0;exact (he h0).elim
  rw [if_neg he] at h0 ⊢;have he:(stT t ts).1=0:=by simpa using he
  have s1:=sv_st t ts hT hf.left he;have g1:=go_st t ts hT hf.left he;have s2:=sv_seq l _ g1.ok (hf.right g1) h0;refine ⟨fun k hk=>?_,fun k hk=>?_,fun g=>s2.lk (s1.lk g)⟩
  ·
   rw [letsL] at hk;by_cases h1:t.op=1
   ·
    rw [if_pos h1] at hk s1;simp only [List.mem_cons,not_or] at hk;exact (s2.vis k hk.2).trans (s1.vis k (by simpa using hk.1))
   ·
    rw [if_neg h1] at hk s1;exact (s2.vis k hk).trans (s1.vis k (by simp))
  ·
   simp only [List.mem_append,not_or] at hk;exact (s2.lp k hk.2).trans (s1.lp k hk.1)
end
theorem TR.blk {l:List St} {ts:TS} {vars:Vis} {loops:List qab} (h:TR ts vars loops) (hT:TOk ts) (hf:fresh (nmL l) ts) (h0:(qc9 l ts).1=0):TR (qcm l (qc9 l) ts).2 vars loops:=by
 have g:=go_seq l ts hT hf h0;have s:=SV.blk hT hf g (sv_seq l ts hT hf h0) h0;have e:(qcm l (qc9 l) ts).2.all=(qc9 l ts).2.all:=by unfold qcm;rw [if_neg (by simp [h0])]
 have sub:∀ k,k∈qba ts.all→k∈qba (qcm l (qc9 l) ts).2.all:=fun k hk=>by
  rw [e];rcases hx:qa7 ts.all k with _ | v
  · exact (qcs.1 hx hk).elim
  ·
   have:=g.mono _ _ hx;exact Classical.byContradiction fun hn=>by rw [qcs.2 hn] at this;cases this
 refine ⟨fun k=>(s.vis k (by simp)).trans (h.vis k),fun k hk=>?_,fun k hk=>sub k (h.lin k hk),s.lk h.lk,h.ty⟩;by_cases hn:k∈nmL l
 ·
  have h1:=hf.2 k hn;exact (h.keys hT h1 hk).elim
 · rw [s.lp k hn];exact h.lp k hk
abbrev visP (l:List Param):Vis:=l.map fun p=>(p.name,p.ty)
theorem TR.params:∀ (ps pre:List Param) (ts:TS),TOk ts→fresh (ps.map (·.name)) ts→TR ts (visP pre) []→(∀ x∈ps,1≤x.ty∧x.ty≤3)→TR (declP ps ts) (visP (pre++ps)) []
 | [],pre,ts,_,_,h,_=>by rw [List.append_nil];exact h
 | x::l,pre,ts,hT,hf,h,ht=>by
  have hd:declP (x::l) ts=declP l (ts.decl x.name x.ty):=rfl;rw [hd];have hf':fresh ([x.name]++l.map (·.name)) ts:=hf
  have hn:=hf'.2 x.name (by simp);have g:=TGo.set hT hn x.ty ts.loops;have hx:=ht x (by simp);have:=TR.params l (pre++[x]) (ts.decl x.name x.ty) g.ok (hf'.right g) (by
   have e:visP (pre++[x])=visP pre++[(x.name,x.ty)]:=by simp [visP]
   rw [e];exact h.decl hT hn hx.1 hx.2) (fun y hy=>ht y (by simp [hy]))
  rw [List.append_assoc] at this;exact this
end Go.Cw

namespace Go.Cw
open Go Go.Abs
def n1 (t:St):N4:=⟨1,gE t.a+gE t.b,if t.op=3∨t.op=4 then 1 else 0,if t.op=7 then 1 else 0⟩
end Go.Cw

namespace Go.Cw
open Go Go.Abs
end Go.Cw

namespace Go.Cw
open Go Go.Abs
theorem sLt_eq {a b:qab} (h1:¬ sLt a b=true) (h2:¬ sLt b a=true):a=b:=by
 have:=sLt_tri a b;simp only [Bool.not_eq_true] at h1 h2;rw [h1,h2] at this;simpa using this
end Go.Cw

namespace Go.Cw
open Go Go.Abs
def effF (f:Foot):Foot:=if qdb f.all f.reads f.writes=true then f else ⟨true,[],[]⟩
def depS (a b:Foot):Bool:=if b.all=true then true else if a.all=true then decide (0<b.reads.length) else a.writes.any fun k=>hasK b.reads k
def depsOf (l:List Foot) (j:Nat) (f:Foot):List Nat:=(List.range j).filter fun i=>match l[i]? with | some g=>depS (effF g) (effF f) | none=>false
section
variable {fmt:Int→qab}
def serSt (fmt:Int→qab) (procs:List Proc) (s:List Pr) (l:List Txn) (i:Nat):List Pr:=(roundS fmt procs s (l.take i)).1
def serEf (fmt:Int→qab) (procs:List Proc) (s:List Pr) (l:List Txn) (i:Nat) (t:Txn):Eff:=(oneS fmt procs (serSt fmt procs s l i) t).2
structure MvIn (fmt:Int→qab) (procs:List Proc) (s:List Pr) (l:List Txn) (effs:List Eff) (done:List Bool):Prop where
 le:effs.length=l.length
 ld:done.length=l.length
 ok:∀ i (h:i<l.length),done.getD i false=true→effs[i]?=some (serEf fmt procs s l i l[i])
section
variable {procs:List Proc} {s:List Pr} {l:List Txn} {effs:List Eff} {done:List Bool}
end
end
end Go.Cw

namespace Go.Cw
open Go Go.Abs
def depsL (fs:List Foot) (j:Nat):List Nat:=match fs[j]? with | some f=>depsOf fs j f | none=>[]
section
variable (fmt:Int→qab)
end
structure MvJ (fmt:Int→qab) (procs:List Proc) (s:List Pr) (l:List Txn) (n:Nat) (x:List Eff×List Bool×List Nat):Prop where
 inv:MvIn fmt procs s l x.1 x.2.1
 len:x.2.2.length=n
 nod:x.2.2.Nodup
 mem:∀ j,x.2.1.getD j false=true↔j∈x.2.2
 lt:∀ j∈x.2.2,j<l.length
 dep:∀ a (h:a<x.2.2.length),∀ i∈depsL (l.map (·.ft)) x.2.2[a],i∈x.2.2.take a
section
variable {fmt:Int→qab} {procs:List Proc} {s:List Pr} {l:List Txn} {choices:List Int}
end
end Go.Cw

namespace Go.Cw
open Go Go.Abs
section
variable {fmt:Int→qab} {procs:List Proc} {s:List Pr}
end
end Go.Cw

namespace Go.Cw
open Go Go.Abs
def delS:List qab→qab→List qab
 | [],_=>[]
 | x::l,s=>if x=s then l else x::delS l s
theorem delS_same {s:qab}:∀ {l:List qab},delS l s=l→s∉l
 | [],_=>by simp
 | x::l,h=>by
  rw [delS] at h;split at h
  ·
   have:=congrArg List.length h;simp at this
  ·
   rename_i hx;simp only [List.cons.injEq,true_and] at h;simp only [List.mem_cons,not_or];exact ⟨fun e=>hx e.symm,delS_same h⟩
theorem kDel_keys {α:Type} {k:qab}:∀ {l:List (qab×α)},(qba l).Nodup→∀ x∈qba (kDel l k),x∈qba l∧x≠k
 | [],_,x,h=>by simp [kDel,qba] at h
 | p::l,hn,x,h=>by
  simp only [qba,List.map_cons,List.nodup_cons] at hn;rw [kDel] at h;split at h
  ·
   rename_i hp;refine ⟨List.mem_cons_of_mem _ h,?_⟩;rintro rfl;exact hn.1 (hp▸h)
  ·
   rename_i hp;simp only [qba,List.map_cons,List.mem_cons] at h ⊢;rcases h with rfl | h
   · exact ⟨.inl rfl,hp⟩
   ·
    have:=kDel_keys hn.2 x h;exact ⟨.inr this.1,this.2⟩
theorem kDel_nod {α:Type} {l:List (qab×α)} (h:(qba l).Nodup) (k:qab):(qba (kDel l k)).Nodup:=h.sublist ((kDel_sub _ _).map _)
theorem delLets_keys:∀ (l:List St) (vis:Vis),(qba vis).Nodup→(qba (qdc l vis)).Nodup∧∀ x∈qba (qdc l vis),x∈qba vis∧∀ t∈l,t.op=1→x≠t.name
 | [],vis,h=>by
  rw [qdc];exact ⟨h,fun x hx=>⟨hx,by simp⟩⟩
 | t::l,vis,h=>by
  rw [qdc];by_cases h1:t.op=1
  ·
   rw [if_pos h1];have ih:=delLets_keys l (kDel vis t.name) (kDel_nod h _);refine ⟨ih.1,fun x hx=>?_⟩;have g:=kDel_keys h x (ih.2 x hx).1;refine ⟨g.1,fun s hs h2=>?_⟩;rcases List.mem_cons.1 hs with rfl | hs
   · exact g.2
   · exact (ih.2 x hx).2 s hs h2
  ·
   rw [if_neg h1];have ih:=delLets_keys l vis h;refine ⟨ih.1,fun x hx=>⟨(ih.2 x hx).1,fun s hs h2=>?_⟩⟩;rcases List.mem_cons.1 hs with rfl | hs
   · exact (h1 h2).elim
   · exact (ih.2 x hx).2 s hs h2
structure VK (ts ts':TS) (P:qab→Prop):Prop where
 nod:(qba ts'.visible).Nodup
 sub:∀ x∈qba ts'.visible,x∈qba ts.visible∨P x
theorem vk_blk {l:List St} {ts:TS} {f:TS→Int×TS} (hf:(f ts).1=0→VK ts (f ts).2 fun x=>∃ t∈l,t.op=1∧x=t.name) (h0:(qcm l f ts).1=0):VK ts (qcm l f ts).2 fun _=>False:=by
 unfold qcm at h0 ⊢;split at h0
 · rename_i h;exact (h h0).elim
 rename_i h;rw [if_neg h];have g:=hf (by simpa using h);have d:=delLets_keys l (f ts).2.visible g.nod;refine ⟨d.1,fun x hx=>.inl ?_⟩;rcases g.sub x (d.2 x hx).1 with h1 | ⟨t,h1,h2,h3⟩
 · exact h1
 · exact ((d.2 x hx).2 t h1 h2 h3).elim
theorem stT_ops {t:St} {ts:TS} (h:(stT t ts).1=0):(opsT ts.visible t).2.2=0:=by
 rw [stT_eq] at h;unfold stStep at h;by_cases he:(opsT ts.visible t).2.2≠0
 · rw [if_pos he] at h;exact (he h).elim
 · simpa using he
theorem stT_5 {t:St} {ts:TS} (h5:t.op=5) (h:(stT t ts).1=0):(qcm t.body (qc9 t.body) ts).1=0∧stT t ts=qcm t.els (qc9 t.els) (qcm t.body (qc9 t.body) ts).2:=by
 have ho:=stT_ops h;rw [stT_eq] at h ⊢;unfold stStep at h ⊢;rw [if_neg (by rw [ho];simp),if_neg (by omega),if_neg (by omega),if_neg (by omega),if_neg (by omega),if_neg (by omega),if_pos h5] at h ⊢;by_cases h6:(opsT ts.visible t).1≠3
 · rw [if_pos h6] at h;simp at h
 rw [if_neg h6] at h ⊢;by_cases h9:(qcm t.body (qc9 t.body) ts).1≠0
 · rw [if_pos h9] at h;exact (h9 h).elim
 rw [if_neg h9] at h ⊢;exact ⟨by simpa using h9,rfl⟩
abbrev inLoop (t:St) (ts:TS):TS:=⟨qbk ts.visible t.name 1,qbk ts.loops t.name true,qbk ts.all t.name 1⟩
theorem stT_6 {t:St} {ts:TS} (h6:t.op=6) (h:(stT t ts).1=0):(qcm t.body (qc9 t.body) (inLoop t ts)).1=0∧(stT t ts).2.visible=kDel (qcm t.body (qc9 t.body) (inLoop t ts)).2.visible t.name:=by
 have ho:=stT_ops h;rw [stT_eq] at h ⊢;unfold stStep at h ⊢;rw [if_neg (by rw [ho];simp),if_neg (by omega),if_neg (by omega),if_neg (by omega),if_neg (by omega),if_neg (by omega),if_neg (by omega),if_pos h6] at h ⊢;by_cases h9:(opsT ts.visible t).1≠1∨(opsT ts.visible t).2.1≠1
 · rw [if_pos h9] at h;simp at h
 rw [if_neg h9] at h ⊢;exact ⟨h,rfl⟩
theorem blkOf_seq {l:List St} {u:TS} (h:(qcm l (qc9 l) u).1=0):(qc9 l u).1=0:=by
 unfold qcm at h;split at h
 · rename_i h1;exact (h1 h).elim
 · rename_i h1;simpa using h1
theorem vk_step (t:St) (ts:TS) (h:(qba ts.visible).Nodup) (h0:(stT t ts).1=0)
  (hB:∀ ts:TS,(qba ts.visible).Nodup→(qc9 t.body ts).1=0→VK ts (qc9 t.body ts).2 fun x=>∃ s∈t.body,s.op=1∧x=s.name)
  (hE:∀ ts:TS,(qba ts.visible).Nodup→(qc9 t.els ts).1=0→VK ts (qc9 t.els ts).2 fun x=>∃ s∈t.els,s.op=1∧x=s.name):VK ts (stT t ts).2 fun x=>t.op=1∧x=t.name:=by
 have hr:VK ts ts fun x=>t.op=1∧x=t.name:=⟨h,fun x hx=>.inl hx⟩
 by_cases h5:t.op=5
 ·
  obtain ⟨h8,h9⟩:=stT_5 h5 h0;rw [h9] at h0 ⊢;have g1:=vk_blk (l:=t.body) (f:=qc9 t.body) (fun g=>hB ts h g) h8;have g2:=vk_blk (l:=t.els) (f:=qc9 t.els) (fun g=>hE _ g1.nod g) h0;exact ⟨g2.nod,fun x hx=>.inl ((g1.sub x ((g2.sub x hx).resolve_right id)).resolve_right id)⟩
 by_cases h6:t.op=6
 ·
  obtain ⟨h8,h9⟩:=stT_6 h6 h0;have hn:=nodV_set ts.visible t.name 1 h;have g1:=vk_blk (ts:=inLoop t ts) (l:=t.body) (f:=qc9 t.body) (fun g=>hB _ hn g) h8;refine ⟨by rw [h9];exact kDel_nod g1.nod _,fun x hx=>.inl ?_⟩;rw [h9] at hx;have g3:=kDel_keys g1.nod x hx;rcases (qbv _ _ _ _).1 ((g1.sub x g3.1).resolve_right id) with e | h
  · exact (g3.2 e).elim
  · exact h
 have ho:=stT_ops h0;rw [stT_eq] at h0 ⊢;unfold stStep at h0 ⊢;rw [if_neg (by rw [ho];simp)] at h0 ⊢;by_cases h1:t.op=1
 ·
  rw [if_pos h1];refine ⟨nodV_set _ _ _ h,fun x hx=>?_⟩;rcases (qbv _ _ _ _).1 hx with e | hx
  · exact .inr ⟨h1,e⟩
  · exact .inl hx
 rw [if_neg h1] at h0 ⊢;by_cases h2:t.op=2
 ·
  rw [if_pos h2];rcases qa7 ts.visible t.name with _ | ty
  · exact hr
  · exact hr
 rw [if_neg h2] at h0 ⊢;by_cases h3:t.op=3
 · rw [if_pos h3];exact hr
 rw [if_neg h3] at h0 ⊢;by_cases h4:t.op=4
 · rw [if_pos h4];exact hr
 rw [if_neg h4] at h0 ⊢;by_cases h7:t.op=7
 · rw [if_pos h7];exact hr
 rw [if_neg h7,if_neg h5,if_neg h6];exact hr
mutual
theorem vk_st:∀ (t:St) (ts:TS),(qba ts.visible).Nodup→(stT t ts).1=0→VK ts (stT t ts).2 fun x=>t.op=1∧x=t.name
 | .mk op name mx a b body els,ts,h,h0=>vk_step (.mk op name mx a b body els) ts h h0 (fun ts h g=>vk_seq body ts h g) (fun ts h g=>vk_seq els ts h g)
theorem vk_seq:∀ (l:List St) (ts:TS),(qba ts.visible).Nodup→(qc9 l ts).1=0→VK ts (qc9 l ts).2 fun x=>∃ t∈l,t.op=1∧x=t.name
 | [],ts,h,_=>by rw [qc9];exact ⟨h,fun x hx=>.inl hx⟩
 | t::l,ts,h,h0=>by
  rw [qc9] at h0 ⊢;by_cases h1:(stT t ts).1≠0
  · rw [if_pos h1] at h0;exact (h1 h0).elim
  rw [if_neg h1] at h0 ⊢;have g1:=vk_st t ts h (by simpa using h1);have g2:=vk_seq l _ g1.nod h0;refine ⟨g2.nod,fun x hx=>?_⟩;rcases g2.sub x hx with h2 | ⟨s,h2,h3⟩
  ·
   rcases g1.sub x h2 with h4 | h4
   · exact .inl h4
   · exact .inr ⟨t,by simp,h4⟩
  · exact .inr ⟨s,by simp [h2],h3⟩
end
def Kn (f:MV) (s:qab):Prop:=∃ v,f s=some (kn v)
def KnUp (C:List qab) (f g:MV):Prop:=∀ s∈C,Kn f s→Kn g s
theorem KnUp.refl (C:List qab) (f:MV):KnUp C f f:=fun _ _ h=>h
theorem KnUp.trans {C:List qab} {f g h:MV} (a:KnUp C f g) (b:KnUp C g h):KnUp C f h:=fun s hs k=>b s hs (a s hs k)
theorem kn_of {a:AX} (h:a.known=true):a=kn a.v:=by cases a;simp only at h;subst h;rfl
theorem KnUp.set {C:List qab} {f:MV} {s:qab} {a:AX} (h:s∈C→a.known=true):KnUp C f (updF f s a):=fun k hk hx=>by
 unfold Kn updF;split
 ·
  rename_i e;subst e;exact ⟨a.v,by rw [← kn_of (h hk)]⟩
 · exact hx
theorem ofL_mem {vis:Vis}:∀ {l:List Ex},(ofL vis l).1=0→∀ e∈l,(ofE vis e).2=0
 | [],_,e,h=>by simp at h
 | x::l,h,e,he=>by
  rw [ofL] at h;split at h
  · rename_i h1;exact (h1 h).elim
  ·
   rename_i h1;rcases List.mem_cons.1 he with rfl | he
   · simpa using h1
   · exact ofL_mem h e he
theorem of_var {vis:Vis} {e:Ex} (h3:e.op=3) (h:(ofE vis e).2=0):e.s∈qba vis:=by
 rw [ofE_eq,if_pos h3] at h;rcases hg:qa7 vis e.s with _ | ty
 · rw [hg] at h;simp [varT] at h
 · exact List.mem_map.2 ⟨_,kGet_mem hg,rfl⟩
theorem of_args {vis:Vis} {e:Ex} (h3:e.op≠3) (h:(ofE vis e).2=0):(ofL vis e.args).1=0:=by
 rw [ofE_eq,if_neg h3] at h;by_cases hl:(ofL vis e.args).1≠0
 · rw [if_pos hl] at h;exact (hl h).elim
 · simpa using hl
section
variable {fmt:Int→qab} {C:List qab}
theorem ops_a {vis:Vis} {t:St} (h:(opsT vis t).2.2=0) (h8:t.op≠8):(ofE vis t.a).2=0:=by
 unfold opsT at h;rw [if_neg h8] at h;split at h
 · rename_i h1;exact h1.1
 · exact h
theorem ops_b {vis:Vis} {t:St} (h:(opsT vis t).2.2=0) (h3:t.op=3∨t.op=6):(ofE vis t.b).2=0:=by
 have ha:=ops_a h (by omega);unfold opsT at h;rw [if_neg (by omega),if_pos ⟨ha,h3⟩] at h;exact h
end
end Go.Cw

namespace Go.Cw
open Go Go.Abs
theorem no_exact {r:Int×Int} {z:Stop} (h:qce r=.error z):z.code≠1009:=by
 unfold qce at h;split at h
 · cases h
 split at h
 · cases h;simp [ab]
 · cases h;simp [ab]
theorem no_text {s:qab} {z:Stop} (h:textS s=.error z):z.code≠1009:=by
 unfold textS at h;split at h
 · cases h;simp [ab]
 · cases h
theorem no_got {op:Int} {v:V} {z:Stop} (h:gotS op v=.error z):z.code≠1009:=by
 unfold gotS at h;split at h
 · cases h
 split at h
 · cases h
 split at h
 · exact no_text h
 split at h
 · cases h;simp [ab]
 · cases h
theorem no_arith {op a b:Int} {z:Stop} (h:qd6 op a b=.error z):z.code≠1009:=by
 unfold qd6 at h
 repeat' split at h
 all_goals exact no_exact h
section
variable {C:Cfg}
theorem no_fetch {k:qab} {s t:MS} {z:Stop} (h:qbr C k s=(.error z,t)):z.code≠1009:=by
 unfold qbr at h;split at h
 · cases h;simp [ab]
 split at h
 · cases h
 split at h
 · cases h;simp [rst]
 · cases h
theorem no_store {k:qab} {v:V} {s t:MS} {z:Stop} (h:qbi C k v s=(.error z,t)):z.code≠1009:=by
 unfold qbi at h;split at h
 · cases h;simp [ab]
 split at h
 · cases h;simp [rst]
 · cases h
theorem no_emit {v:V} {s t:MS} {z:Stop} (h:emitS v s=(.error z,t)):z.code≠1009:=by
 unfold emitS at h;split at h
 · cases h;simp [ab]
 · cases h
theorem no_tick {s t:MS} {z:Stop} (h:qc2 s=(.error z,t)):z.code≠1009:=by
 unfold qc2 at h;split at h
 · cases h;simp [ab]
 · cases h
theorem fetch_vars (k:qab) (s:MS):(qbr C k s).2.vars=s.vars:=by
 unfold qbr
 repeat' split
 all_goals rfl
theorem op_vars (op:Int) (l:List V) (s:MS):(opS C op l s).2.vars=s.vars:=by
 unfold opS;split
 ·
  rename_i a;unfold unS;have:=fetch_vars (C:=C) a.s s
  repeat' split
  all_goals first
   | rfl
   | (rename_i h;rw [h] at this;exact this)
 · rfl
 · rfl
mutual
theorem ev_vars:∀ (e:Ex) (s:MS),(evE C e s).2.vars=s.vars
 | .mk op n t args,s=>by
  have hL:=evL_vars args s;rw [evE];split
  · rfl
  split
  · rfl
  split
  · rfl
  rcases h:evL C args s with ⟨z | l,m'⟩<;>rw [h] at hL
  · exact hL
  · exact (op_vars _ _ _).trans hL
theorem evL_vars:∀ (l:List Ex) (s:MS),(evL C l s).2.vars=s.vars
 | [],s=>by rw [evL]
 | e::l,s=>by
  have hE:=ev_vars e s;rw [evL];rcases h:evE C e s with ⟨z | v,m'⟩<;>rw [h] at hE
  · exact hE
  ·
   have hL:=evL_vars l m';simp only;rcases h2:evL C l m' with ⟨z | r,m''⟩<;>rw [h2] at hL
   · exact hL.trans hE
   · exact hL.trans hE
end
theorem no_op {op:Int} {l:List V} {tys:List Int} {s t:MS} {z:Stop} (har:(l.length:Int)=qcp op) (h4:4≤op) (hnd:nonDet op=false) (hk:l.map (·.k)=tys) (ht:∀ ty∈tys,1≤ty∧ty≤3)
  (hty:if 10≤op∧op≤15 then tys.getD 0 0=tys.getD 1 0∧cmpOk op (tys.getD 0 0)=true else ∀ ty∈tys,ty=(qb6 op).1) (h:opS C op l s=(.error z,t)):z.code≠1009:=by
 subst hk;have hnd':¬ (op=25∨op=26∨op=27):=by
  unfold nonDet at hnd;simp only [Bool.or_eq_false_iff,decide_eq_false_iff_not] at hnd;omega
 have hx:∀ {x:EV} {u:MS},(x,u)=((.error z,t):EV×MS)→x=.error z:=fun h=>congrArg Prod.fst h
 match l,har,ht,hty,h with
 | [],har,_,_,_ =>
  unfold qcp at har;simp only [List.length_nil] at har;exfalso;grind
 | [a],har,_,hty,h =>
  have h1:op=9∨op=18∨op=20∨op=21∨op=22∨op=23∨op=24:=by
   unfold qcp at har;simp only [List.length_cons,List.length_nil] at har;grind
  rw [if_neg (by omega)] at hty;have ha:a.k=(qb6 op).1:=hty _ (by simp);have h:unS C op a s=(.error z,t):=h;unfold unS at h;rcases h1 with rfl | rfl | rfl | rfl | h1
  ·
   rw [if_pos rfl,if_pos (by rw [ha];decide)] at h;exact no_exact (hx h)
  ·
   rw [if_neg (by decide),if_pos rfl,if_pos (by rw [ha];decide)] at h;cases hx h
  ·
   rw [if_neg (by decide),if_neg (by decide),if_pos rfl,if_pos (by rw [ha];decide)] at h;exact no_text (hx h)
  ·
   rw [if_neg (by decide),if_neg (by decide),if_neg (by decide),if_pos rfl,if_pos (by rw [ha];decide)] at h;cases hx h
  ·
   have h2:a.k=2:=by
    rw [ha];rcases h1 with rfl | rfl | rfl<;>decide
   rw [if_neg (by omega),if_neg (by omega),if_neg (by omega),if_neg (by omega),if_neg (by omega)] at h;rcases hf:qbr C a.s s with ⟨z' | v,t'⟩
   ·
    rw [hf] at h;cases h;exact no_fetch hf
   ·
    rw [hf] at h;exact no_got (hx h)
 | [a,b],har,ht,hty,h =>
  have h1:(4≤op∧op≤8)∨(10≤op∧op≤15)∨op=16∨op=17∨op=19:=by
   unfold qcp at har;simp only [List.length_cons,List.length_nil] at har;grind
  have h:=hx (show (binS op a b,s)=_ from h);unfold binS at h;rcases h1 with h1 | h1 | h1
  ·
   rw [if_neg (by omega)] at hty;have hs:(qb6 op).1=1:=by unfold qb6;rw [if_pos (by omega)]
   have ha:a.k=1:=by rw [← hs];exact hty _ (by simp)
   have hb:b.k=1:=by rw [← hs];exact hty _ (by simp)
   rw [if_pos (by omega),if_pos ⟨ha,hb⟩] at h;exact no_arith h
  ·
   rw [if_pos h1] at hty;obtain ⟨e1,e2⟩:=hty;simp only [List.map_cons,List.map_nil,List.getD_eq_getElem?_getD,List.getElem?_cons_zero,List.getElem?_cons_succ,Option.getD_some] at e1 e2;have hr:=ht a.k (by simp);rw [if_neg (by omega),if_neg (by omega),if_neg (by omega),if_neg (by omega)] at h;unfold compS at h;split at h
   · cases h
   ·
    rename_i hn;refine (hn ⟨e1,?_⟩).elim;unfold cmpOk at e2;simp only [Bool.or_eq_true,Bool.not_eq_true',decide_eq_false_iff_not,decide_eq_true_eq] at e2;omega
  ·
   rw [if_neg (by omega)] at hty;rcases h1 with rfl | rfl | rfl
   ·
    rw [if_neg (by decide),if_pos rfl,if_pos ⟨hty _ (by simp),hty _ (by simp)⟩] at h;cases h
   ·
    rw [if_neg (by decide),if_neg (by decide),if_pos rfl,if_pos ⟨hty _ (by simp),hty _ (by simp)⟩] at h;cases h
   ·
    rw [if_neg (by decide),if_neg (by decide),if_neg (by decide),if_pos rfl,if_pos ⟨hty _ (by simp),hty _ (by simp)⟩] at h;exact no_text h
 | a::b::c::l,har,_,_,_ =>
  have:=arity_le op;simp only [List.length_cons] at har;omega
def NDE (e:Ex):Prop:=∀ x∈preE e,nonDet x.op=false
theorem mem_preL {l:List Ex} {e x:Ex} (he:e∈l) (hx:x∈preE e):x∈preL l:=by
 induction l with
 | nil=>cases he
 | cons a l ih =>
  rw [preL,List.mem_append];rcases List.mem_cons.1 he with rfl | he
  · exact .inl hx
  · exact .inr (ih he)
theorem NDE.args {e:Ex} (h:NDE e):∀ x∈e.args,NDE x:=fun x hx y hy=>h y (by
 rw [preE_eq];exact List.mem_cons_of_mem _ (mem_preL hx hy))
theorem NDE.self {e:Ex} (h:NDE e):nonDet e.op=false:=h e (by rw [preE_eq];simp)
def VE (vis:Vis) (s:MS):Prop:=∀ k∈qba vis,qa7 s.vars k≠none
mutual
theorem no_ev {G vis:Vis} (hsub:subV vis G):∀ (e:Ex) (d:Nat) (s t:MS) (z:Stop),chkE e d=0→NDE e→(ofE vis e).2=0→tyS G s→VE vis s→evE C e s=(.error z,t)→z.code≠1009
 | .mk op n x args,d,s,t,z,hc,hn,hT,hS,hE,h=>by
  have har:=(chkE_ar hc).1;have hc':=(chkE_ar hc).2;have hn':=hn.args;have hno:=hn.self;simp only [Ex.args,Ex.op] at har hc' hn' hno;have hop1:1≤op:=by
   have:0≤qcp op:=by omega
   unfold qcp at this;split at this
   · omega
   · omega
  rw [evE] at h;split at h
  · cases h
  split at h
  · cases h
  split at h
  ·
   rename_i h3;have hv:=of_var (e:=.mk op n x args) h3 hT;have:=hE _ hv;simp only [Ex.s] at this;have h:=congrArg Prod.fst h;simp only at h;split at h
   · cases h
   · rename_i hk;exact (this hk).elim
  rename_i h1 h2 h3;have hL:=of_args (e:=.mk op n x args) h3 hT;simp only [Ex.args] at hL;obtain ⟨g1,g2⟩:=no_evL hsub args s (fun e he=>⟨_,hc' e he⟩) hn' hL hS hE;rcases hx:evL C args s with ⟨z' | q,m'⟩
  ·
   rw [hx] at h g1;cases h;exact g1 _ rfl
  ·
   rw [hx] at h g2;obtain ⟨k1,k2⟩:=g2 q rfl;refine no_op (tys:=(ofL vis args).2) (by rw [evL_len hx];exact har) (by omega) hno k1 k2 ?_ h;rw [ofE_eq,if_neg (show ¬ (Ex.mk op n x args).op=3 from h3)] at hT;have hT:(if (ofL vis args).1≠0 then ((0,(ofL vis args).1):Int×Int) else if 10≤op∧op≤15 then (if (ofL vis args).2.getD 0 0≠(ofL vis args).2.getD 1 0∨cmpOk op ((ofL vis args).2.getD 0 0)=false then (0,10) else (3,0)) else if (ofL vis args).2.all (fun t=>decide (t=(qb6 op).1)) then ((qb6 op).2,0) else (0,10)).2=0:=hT;by_cases h10:10≤op∧op≤15
   ·
    rw [if_pos h10];by_cases hcm:(ofL vis args).2.getD 0 0≠(ofL vis args).2.getD 1 0∨cmpOk op ((ofL vis args).2.getD 0 0)=false
    ·
     have:(if (ofL vis args).1≠0 then ((0,(ofL vis args).1):Int×Int) else if 10≤op∧op≤15 then (if (ofL vis args).2.getD 0 0≠(ofL vis args).2.getD 1 0∨cmpOk op ((ofL vis args).2.getD 0 0)=false then (0,10) else (3,0)) else if (ofL vis args).2.all (fun t=>decide (t=(qb6 op).1)) then ((qb6 op).2,0) else (0,10))=(0,10):=by
      rw [if_neg (by omega),if_pos h10,if_pos hcm]
     have hT2:=(congrArg Prod.snd this).symm.trans hT;cases hT2
    ·
     simp only [not_or,Decidable.not_not] at hcm;exact ⟨hcm.1,by simpa using hcm.2⟩
   ·
    rw [if_neg h10];cases hall:(ofL vis args).2.all (fun t=>decide (t=(qb6 op).1)) with
    | true =>
     intro ty hty;simpa using List.all_eq_true.1 hall ty hty
    | false =>
     have:(if (ofL vis args).1≠0 then ((0,(ofL vis args).1):Int×Int) else if 10≤op∧op≤15 then (if (ofL vis args).2.getD 0 0≠(ofL vis args).2.getD 1 0∨cmpOk op ((ofL vis args).2.getD 0 0)=false then (0,10) else (3,0)) else if (ofL vis args).2.all (fun t=>decide (t=(qb6 op).1)) then ((qb6 op).2,0) else (0,10))=(0,10):=by
      rw [if_neg (by omega),if_neg h10,hall,if_neg (by simp)]
     have hT2:=(congrArg Prod.snd this).symm.trans hT;cases hT2
theorem no_evL {G vis:Vis} (hsub:subV vis G):∀ (l:List Ex) (s:MS),(∀ e∈l,∃ d,chkE e d=0)→(∀ e∈l,NDE e)→(ofL vis l).1=0→tyS G s→VE vis s →
  (∀ z,(evL C l s).1=.error z→z.code≠1009)∧∀ q,(evL C l s).1=.ok q→q.map (·.k)=(ofL vis l).2∧∀ ty∈(ofL vis l).2,1≤ty∧ty≤3
 | [],s,_,_,_,_,_=>by
  rw [evL,ofL];exact ⟨fun z h=>(by cases h),fun q h=>(by cases h;simp)⟩
 | e::l,s,hc,hn,hT,hS,hE=>by
  obtain ⟨d,hcd⟩:=hc e (by simp);have he0:=ofL_mem hT e (by simp);have hT2:(ofL vis l).1=0∧(ofL vis (e::l)).2=(ofE vis e).1::(ofL vis l).2:=by
   rw [ofL] at hT ⊢;rw [if_neg (by omega)] at hT ⊢;exact ⟨hT,rfl⟩
  have hE1:=no_ev hsub e d s;have hk1:=fun v t=>kind_ev (C:=C) hsub (e:=e) (d:=d) (ty:=(ofE vis e).1) (s:=s) (t:=t) (v:=v) hcd (by rw [← he0]) hS;have hv1:=ev_vars (C:=C) e s;rw [evL];rcases hx:evE C e s with ⟨z' | v,m'⟩
  · exact ⟨fun z h=>(by cases h;exact hE1 _ _ hcd (hn e (by simp)) he0 hS hE hx),fun q h=>(by cases h)⟩
  ·
   rw [hx] at hv1;simp only at hv1 ⊢;have hkv:=hk1 v m' hx;obtain ⟨g1,g2⟩:=no_evL hsub l m' (fun e he=>hc e (by simp [he])) (fun e he=>hn e (by simp [he])) hT2.1 (fun k w ty hw hg=>hS k w ty (by rw [← hv1];exact hw) hg) (fun k hk=>by rw [hv1];exact hE k hk);rcases hy:evL C l m' with ⟨z' | r,m''⟩
   ·
    rw [hy] at g1;exact ⟨fun z h=>(by cases h;exact g1 _ rfl),fun q h=>(by cases h)⟩
   ·
    rw [hy] at g2;obtain ⟨k1,k2⟩:=g2 r rfl;refine ⟨fun z h=>(by cases h),fun q h=>?_⟩;cases h;rw [hT2.2];refine ⟨by rw [List.map_cons,k1,hkv.1],fun ty hty=>?_⟩;rcases List.mem_cons.1 hty with rfl | hty
    · exact hkv.2
    · exact k2 ty hty
end
end
end Go.Cw
