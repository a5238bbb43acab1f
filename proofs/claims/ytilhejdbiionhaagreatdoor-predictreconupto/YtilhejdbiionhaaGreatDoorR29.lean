/- Part 29 of a proof: CwVb, CwVc -/
import Derived.Test.YtilhejdbiionhaaGreatDoorR28
set_option linter.all false

namespace Go.Cw
open Go Go.Abs
def binT(op a b:Int):Int :=
 if a≠b then 0 else if 4≤op∧op≤8∧a=1 then 1
 else if op=10∨op=11∨(12≤op∧op≤15∧a≠3)∨((op=16∨op=17)∧a=3)then 3
 else if op=19∧a=2 then 2 else 0
theorem varT_rng{o:Option Int}(h:(varT o).2=0):1≤(varT o).1∧(varT o).1≤3:=by
 unfold varT at h⊢;split
 ·simp at h
 ·rename_i ty;simp only at h⊢;split
  ·rename_i h1;rw[if_pos h1]at h;simp at h
  ·simp only;omega
theorem sig_rng(op:Int):1≤(qcm op).2∧(qcm op).2≤3:=by
 unfold qcm
 repeat' split
 all_goals decide
theorem ofE_rng(vars:Vis)(e:Ex)(h:(ofE vars e).2=0):1≤(ofE vars e).1∧(ofE vars e).1≤3:=by
 rw[ofE_eq]at h⊢;by_cases h3:e.op=3
 ·rw[if_pos h3]at h⊢;exact varT_rng h
 rw[if_neg h3]at h⊢;by_cases h0:(ofL vars e.args).1≠0
 ·rw[if_pos h0]at h;exact(h0 h).elim
 rw[if_neg h0]at h⊢;by_cases h1:10≤e.op∧e.op≤15
 ·rw[if_pos h1]at h⊢;split
  ·rename_i h2;rw[if_pos h2]at h;simp at h
  ·simp
 rw[if_neg h1]at h⊢;split
 ·exact sig_rng _
 ·rename_i h2;rw[if_neg h2]at h;simp at h
theorem ofE_0(vars:Vis){e:Ex}(h:qb0 e.op=0)(ha:e.args=[]):ofE vars e=if e.op=3 then varT (qbg vars e.s)else if e.op=2 then(2,0)else(1,0):=by
 rw[ofE_eq,ha,ofL];unfold qb0 at h;by_cases h3:e.op=3
 ·rw[if_pos h3,if_pos h3]
 have hop:e.op≤3∨25≤e.op:=by
  split at h
  ·omega
  split at h
  ·assumption
  split at h<;>omega
 rw[if_neg h3,if_neg h3,if_neg (by simp),if_neg (by omega)];simp only[List.all_nil,if_true];by_cases h2:e.op=2
 ·rw[if_pos h2,h2];rfl
 rw[if_neg h2];have hlo:1≤e.op∧e.op≤27:=by
  split at h
  ·omega
  ·omega
 have:qcm e.op=(1,1):=by
  unfold qcm;rw[if_pos (by omega)]
 rw[this]
theorem ofE_1(vars:Vis){e a:Ex}(h:qb0 e.op=1)(ha:e.args=[a]):ofE vars e=if (ofE vars a).2≠0 then(0,(ofE vars a).2)else if (ofE vars a).1≠(qcm e.op).1 then(0,10)else((qcm e.op).2,0):=by
 have hop:e.op=9∨e.op=18∨(20≤e.op∧e.op≤24):=by
  unfold qb0 at h;split at h
  ·omega
  split at h
  ·omega
  split at h<;>omega
 rw[ofE_eq,ha,if_neg (by omega),ofL,ofL];by_cases h2:(ofE vars a).2≠0
 ·rw[if_pos h2,if_pos h2];simp only;rw[if_pos h2]
 ·rw[if_neg h2,if_neg h2];simp only[ne_eq,not_true_eq_false,if_false,List.all_cons,List.all_nil,Bool.and_true,decide_eq_true_eq];rw[if_neg (by omega)];by_cases h4:(ofE vars a).1=(qcm e.op).1
  ·rw[if_pos h4,if_neg (by simpa using h4)]
  ·rw[if_neg h4,if_pos h4]
theorem ofE_2(vars:Vis){e a b:Ex}(h:qb0 e.op=2)(ha:e.args=[a,b]):ofE vars e=if (ofE vars a).2≠0 then(0,(ofE vars a).2)else if (ofE vars b).2≠0 then(0,(ofE vars b).2)else if binT e.op (ofE vars a).1 (ofE vars b).1=0 then(0,10)else(binT e.op (ofE vars a).1 (ofE vars b).1,0):=by
 have hop:(4≤e.op∧e.op≤8)∨(10≤e.op∧e.op≤17)∨e.op=19:=by
  unfold qb0 at h;split at h
  ·omega
  split at h
  ·omega
  split at h<;>omega
 rw[ofE_eq,ha,if_neg (by omega),ofL,ofL,ofL];by_cases h2:(ofE vars a).2≠0
 ·rw[if_pos h2,if_pos h2];simp only;rw[if_pos h2]
 rw[if_neg h2,if_neg h2];by_cases h3:(ofE vars b).2≠0
 ·rw[if_pos h3,if_pos h3];simp only;rw[if_pos h3]
 rw[if_neg h3,if_neg h3];have ra:=ofE_rng vars a (by simpa using h2);have rb:=ofE_rng vars b (by simpa using h3);obtain⟨x,hx⟩:∃x,(ofE vars a).1=x:=⟨_,rfl⟩
 obtain⟨y,hy⟩:∃y,(ofE vars b).1=y:=⟨_,rfl⟩
 rw[hx]at ra⊢;rw[hy]at rb⊢;obtain⟨op,ho⟩:∃op,e.op=op:=⟨_,rfl⟩
 rw[ho]at hop⊢;simp only[ne_eq,not_true_eq_false,if_false,List.getD_cons_zero,List.getD_cons_succ,List.all_cons,List.all_nil,Bool.and_true,Bool.and_eq_true,decide_eq_true_eq];have ex:x=1∨x=2∨x=3:=by omega
 have ey:y=1∨y=2∨y=3:=by omega
 have eo:op=4∨op=5∨op=6∨op=7∨op=8∨op=10∨op=11∨op=12∨op=13∨op=14∨op=15∨op=16∨op=17∨op=19:=by omega
 clear hx hy ho hop ra rb ha h h2 h3;rcases ex with rfl|rfl|rfl<;>rcases ey with rfl|rfl|rfl<;>rcases eo with rfl|rfl|rfl|rfl|rfl|rfl|rfl|rfl|rfl|rfl|rfl|rfl|rfl|rfl<;>decide
def qby(op a b:Int):Bool :=
 if op=3 then !decide (a=2)||decide (b=3)else if op=4 then !decide (a=2)else if op=5 then !decide (a=3)else if op=6 then !decide (a=1)||!decide (b=1)else if op=7 then decide (a=3)else false
def assignT(vars:Vis)(loops:List qac)(name:qac)(t:Int):Int :=
 if (varT (qbg vars name)).2≠0 then(varT (qbg vars name)).2 else if qd1 loops name=true then 7 else if t≠(varT (qbg vars name)).1 then 10 else 0
mutual
def rstT:St→Vis→List qac→Int
 | .mk op name mx a b body els,vars,loops =>
  let t:St:=.mk op name mx a b body els
  let o:=qc5 vars t
  let e1:=if o.2.2=0∧op=2 then assignT vars loops name o.1 else o.2.2
  let e2:=if e1=0∧qby op o.1 o.2.1=true then 10 else e1
  let e3:=if e2=0∧op=5 then(if qdr body vars loops=0 then qdr els vars loops else qdr body vars loops)else e2
  if e3=0∧op=6 then qdr body (vars++[(name,1)]) (loops++[name])else e3
def qdr:List St→Vis→List qac→Int
 | [],_,_=>0
 |t::l,vars,loops=>if rstT t vars loops≠0 then rstT t vars loops else qdr l (if t.op=1 then vars++[(t.name,(qc5 vars t).1)]else vars) loops
end
theorem rstT_eq(t:St)(vars:Vis)(loops:List qac):rstT t vars loops =
  (let o:=qc5 vars t
  let e1:=if o.2.2=0∧t.op=2 then assignT vars loops t.name o.1 else o.2.2
  let e2:=if e1=0∧qby t.op o.1 o.2.1=true then 10 else e1
  let e3:=if e2=0∧t.op=5 then(if qdr t.body vars loops=0 then qdr t.els vars loops else qdr t.body vars loops)else e2
  if e3=0∧t.op=6 then qdr t.body (vars++[(t.name,1)]) (loops++[t.name])else e3):=by
 cases t;rw[rstT];rfl
theorem kGet_app{α:Type}:∀(l:List (qac×α)) (k n:qac) (v:α),qbg (l++[(n,v)]) k=match qbg l k with|some x=>some x|none=>if n=k then some v else none
 | [],k,n,v=>by simp[qbg]
 |p::l,k,n,v=>by
  simp only[List.cons_append,qbg];split
  ·rfl
  ·exact kGet_app l k n v
theorem ofL_same{a b:Vis}(hk:∀k,qbg a k=qbg b k)(l:List Ex)(h:∀x∈l,ofE a x=ofE b x):ofL a l=ofL b l:=by
 induction l with
 |nil=>rfl
 |cons e l ih =>
  rw[ofL,ofL,h e (by simp),ih (fun x hx=>h x (by simp[hx]))]
theorem ofE_same{a b:Vis}(hk:∀k,qbg a k=qbg b k)(e:Ex):ofE a e=ofE b e:=by
 rw[ofE_eq,ofE_eq,hk,ofL_same hk e.args fun x hx=>by
  have:=Ex.arg_lt hx;exact ofE_same hk x]
termination_by SizeOf.sizeOf e
theorem opsT_same{a b:Vis}(hk:∀k,qbg a k=qbg b k)(t:St):qc5 a t=qc5 b t:=by
 unfold qc5;rw[ofE_same hk,ofE_same hk]
structure TR(ts:TS)(vars:Vis)(loops:List qac):Prop where
 vis:∀k,qbg ts.visible k=qbg vars k
 lp:∀k,k∈qcj vars→(qbg ts.loops k=some true↔k∈loops)
 lin:∀k∈loops,k∈qcj ts.all
 lk:∀k v,qbg ts.loops k=some v→k∈qcj ts.all
 ty:∀k v,qbg vars k=some v→1≤v∧v≤3
theorem TR.keys{ts:TS}{vars:Vis}{loops:List qac}(h:TR ts vars loops)(hT:TOk ts){k:qac}(hk:k∉qcj ts.all):k∉qcj vars:=fun hm=>by
 rcases hx:qbg vars k with _|v
 ·exact qcy.1 hx hm
 ·rw[←h.vis]at hx;have:=hT.sub _ _ hx;rw[qcy.2 hk]at this;cases this
theorem keysV_app{α:Type}(l:List (qac×α))(k:qac)(v:α)(x:qac):x∈qcj (l++[(k,v)])↔x∈qcj l∨x=k:=by
 simp[qcj]
theorem TR.decl{ts:TS}{vars:Vis}{loops:List qac}(h:TR ts vars loops)(hT:TOk ts){k:qac}(hk:k∉qcj ts.all){ty:Int}(h1:1≤ty)(h2:ty≤3):TR (ts.decl k ty) (vars++[(k,ty)]) loops:=by
 have hv:=h.keys hT hk;refine⟨fun x=>?_,fun x hx=>?_,fun x hx=>(qcr _ _ _ _).2 (.inr (h.lin x hx)),fun x v hx=>(qcr _ _ _ _).2 (.inr (h.lk x v hx)),fun x v hx=>?_⟩
 ·simp only[TS.decl];rw[qb3,kGet_app,h.vis];by_cases e:k=x
  ·subst e;rw[if_pos rfl,qcy.2 hv,if_pos rfl]
  ·rw[if_neg e];rcases qbg vars x with _|v<;>simp[e]
 ·rcases(keysV_app _ _ _ _).1 hx with hx|rfl
  ·exact h.lp x hx
  ·simp only[TS.decl];constructor
   ·intro hl;exact(hk (h.lk _ _ hl)).elim
   ·intro hl;exact(hk (h.lin _ hl)).elim
 ·rw[kGet_app]at hx;rcases hg:qbg vars x with _|w
  ·rw[hg]at hx;simp only at hx;split at hx
   ·cases hx;exact⟨h1,h2⟩
   ·cases hx
  ·rw[hg]at hx;cases hx;exact h.ty x _ hg
theorem TR.loop{ts:TS}{vars:Vis}{loops:List qac}(h:TR ts vars loops)(hT:TOk ts){k:qac}(hk:k∉qcj ts.all):TR ⟨qbr ts.visible k 1,qbr ts.loops k true,qbr ts.all k 1⟩ (vars++[(k,1)]) (loops++[k]):=by
 have hd:=h.decl hT hk (ty:=1) (by decide) (by decide);refine⟨hd.vis,fun x hx=>?_,fun x hx=>?_,fun x v hx=>?_,hd.ty⟩
 ·simp only;rw[qb3];by_cases e:k=x
  ·subst e;simp
  ·rw[if_neg e,List.mem_append,List.mem_singleton];rcases(keysV_app _ _ _ _).1 hx with hx|rfl
   ·rw[h.lp x hx];exact⟨.inl,fun g=>g.elim id fun g=>(e g.symm).elim⟩
   ·exact(e rfl).elim
 ·rw[List.mem_append,List.mem_singleton]at hx;rcases hx with hx|rfl
  ·exact(qcr _ _ _ _).2 (.inr (h.lin x hx))
  ·exact(qcr _ _ _ _).2 (.inl rfl)
 ·simp only at hx;rw[qb3]at hx;split at hx
  ·rename_i e;exact(qcr _ _ _ _).2 (.inl e.symm)
  ·exact(qcr _ _ _ _).2 (.inr (h.lk x v hx))
def letsL:List St→List qac
 | []=>[]
 |t::l=>if t.op=1 then t.name::letsL l else letsL l
theorem letsL_nm:∀(l:List St) (k:qac),k∈letsL l→k∈nmL l
 | [],k,h=>by cases h
 |t::l,k,h=>by
  rw[nmL,nmS_eq];rw[letsL]at h;split at h
  ·rename_i h1;rw[if_pos (.inl h1)];rcases List.mem_cons.1 h with rfl|h
   ·simp
   ·have:=letsL_nm l k h;simp[this]
  ·have:=letsL_nm l k h;simp[this]
theorem kGet_del{α:Type}:∀(l:List (qac×α)) (n k:qac),(qcj l).Nodup→qbg (kDel l n) k=if n=k then none else qbg l k
 | [],n,k,_=>by simp[kDel,qbg]
 |p::l,n,k,h=>by
  have h':p.1∉qcj l∧(qcj l).Nodup:=List.nodup_cons.1 h;rw[kDel];by_cases e:p.1=n
  ·rw[if_pos e];by_cases e2:n=k
   ·rw[if_pos e2,qcy,←e2,←e];exact h'.1
   ·rw[if_neg e2,qbg,if_neg (by rw[e];exact e2)]
  ·rw[if_neg e,qbg,qbg,kGet_del l n k h'.2];by_cases e2:n=k
   ·rw[if_pos e2,if_neg (by rw[←e2];exact e),if_pos e2]
   ·rw[if_neg e2,if_neg e2]
theorem delLets_get:∀(l:List St) (vis:Vis) (k:qac),(qcj vis).Nodup→qbg (delLets l vis) k=if qd1 (letsL l) k=true then none else qbg vis k
 | [],vis,k,_=>by simp[delLets,letsL,qd1,anyL]
 |t::l,vis,k,h=>by
  rw[delLets,letsL];split
  ·rename_i h1;rw[delLets_get l _ k (h.sublist ((kDel_sub _ _).map _)),kGet_del _ _ _ h];have hc:qd1 (t.name::letsL l) k=(decide (t.name=k)||qd1 (letsL l) k):=rfl;rw[hc];by_cases e:qd1 (letsL l) k=true
   ·simp[e]
   ·by_cases e2:t.name=k
    ·simp[e2]
    ·simp[e,e2]
  ·exact delLets_get l vis k h
structure SV(ns ls:List qac)(ts ts':TS):Prop where
 vis:∀k,k∉ls→qbg ts'.visible k=qbg ts.visible k
 lp:∀k,k∉ns→qbg ts'.loops k=qbg ts.loops k
 lk:(∀k v,qbg ts.loops k=some v→k∈qcj ts.all)→∀k v,qbg ts'.loops k=some v→k∈qcj ts'.all
theorem SV.refl(ns ls:List qac)(ts:TS):SV ns ls ts ts:=⟨fun _ _=>rfl,fun _ _=>rfl,id⟩
theorem SV.blk{l:List St}{f:TS→Int×TS}{ts:TS}(hT:TOk ts)(hf:fresh (nmL l) ts)(hg:TGo (nmL l) ts (f ts).2)(hs:SV (nmL l) (letsL l) ts (f ts).2)(h0:(f ts).1=0):SV (nmL l) [] ts (qch l f ts).2:=by
 unfold qch;rw[if_neg (by simp[h0])];refine⟨fun k _=>?_,hs.lp,hs.lk⟩;simp only;rw[delLets_get _ _ _ hg.ok.nod];by_cases e:qd1 (letsL l) k=true
 ·rw[if_pos e];have hn:=hf.2 k (letsL_nm l k (hasK_iff.1 e));rcases hx:qbg ts.visible k with _|v
  ·rfl
  ·have:=hT.sub _ _ hx;rw[qcy.2 hn]at this;cases this
 ·rw[if_neg e];exact hs.vis k (fun g=>e (hasK_iff.2 g))
theorem blk_zero{l:List St}{f:TS→Int×TS}{ts:TS}(h:(qch l f ts).1=0):(f ts).1=0:=by
 unfold qch at h;by_cases hb:(f ts).1≠0
 ·rw[if_pos hb]at h;exact(hb h).elim
 ·simpa using hb
theorem blk_fst(l:List St)(f:TS→Int×TS)(ts:TS):(qch l f ts).1=(f ts).1:=by
 unfold qch;split
 ·rfl
 ·rename_i hn;simp only;omega
mutual
theorem sv_st:∀(t:St) (ts:TS),TOk ts→fresh (nmS t) ts→(stT t ts).1=0→SV (nmS t) (if t.op=1 then [t.name]else []) ts (stT t ts).2
 | .mk op name mx a b body els,ts,hT,hf,h0=>by
  obtain⟨t,ht⟩:∃t:St,t=.mk op name mx a b body els:=⟨_,rfl⟩
  have hbody:t.body=body:=by rw[ht];rfl
  have hels:t.els=els:=by rw[ht];rfl
  rw[←ht]at h0 hf⊢;rw[nmS_eq]at hf⊢;rw[stT_eq]at h0⊢;unfold stStep at h0⊢;by_cases he:(qc5 ts.visible t).2.2≠0
  ·rw[if_pos he]at h0;exact(he h0).elim
  rw[if_neg he]at h0⊢;by_cases h1:t.op=1
  ·rw[if_pos h1]at h0⊢;rw[if_pos h1];refine⟨fun k hk=>?_,fun k hk=>rfl,fun g k v hv=>(qcr _ _ _ _).2 (.inr (g k v hv))⟩;simp only[TS.decl];rw[qb3,if_neg (fun e=>hk (by simp[e]))]
  rw[if_neg h1]at h0⊢;rw[if_neg h1];by_cases h2:t.op=2
  ·rw[if_pos h2];rcases qbg ts.visible t.name with _|ty
   ·exact .refl _ _ _
   ·exact .refl _ _ _
  rw[if_neg h2]at h0⊢;by_cases h3:t.op=3
  ·rw[if_pos h3];exact .refl _ _ _
  rw[if_neg h3]at h0⊢;by_cases h4:t.op=4
  ·rw[if_pos h4];exact .refl _ _ _
  rw[if_neg h4]at h0⊢;by_cases h7:t.op=7
  ·rw[if_pos h7];exact .refl _ _ _
  rw[if_neg h7]at h0⊢;by_cases h5:t.op=5
  ·rw[if_pos h5]at h0⊢;by_cases h6:(qc5 ts.visible t).1≠3
   ·rw[if_pos h6]at h0;simp at h0
   rw[if_neg h6]at h0⊢;by_cases h8:(qch t.body (qde t.body) ts).1≠0
   ·rw[if_pos h8]at h0;exact(h8 h0).elim
   rw[if_neg h8]at h0⊢;rw[if_neg (by omega),List.nil_append]at hf⊢;have z1:=blk_zero (by simpa using h8);have z2:=blk_zero h0;have g1:=TGo.blk (l:=t.body) (f:=qde t.body) (fun g=>go_seq t.body ts hT hf.left g) (by simpa using h8);have hf2:=hf.right g1;have s1:=SV.blk hT hf.left (go_seq t.body ts hT hf.left z1) (by rw[hbody]at hf z1⊢;exact sv_seq body ts hT hf.left z1) z1;have s2:=SV.blk g1.ok hf2 (go_seq t.els _ g1.ok hf2 z2) (by rw[hels]at hf2 z2⊢;exact sv_seq els _ g1.ok hf2 z2) z2;refine⟨fun k hk=>(s2.vis k hk).trans (s1.vis k hk),fun k hk=>?_,fun g=>s2.lk (s1.lk g)⟩;simp only[List.mem_append,not_or]at hk;exact(s2.lp k hk.2).trans (s1.lp k hk.1)
  rw[if_neg h5]at h0⊢;by_cases h6:t.op=6
  ·rw[if_pos h6]at h0⊢;by_cases h8:(qc5 ts.visible t).1≠1∨(qc5 ts.visible t).2.1≠1
   ·rw[if_pos h8]at h0;simp at h0
   rw[if_neg h8]at h0⊢;rw[if_pos (.inr h6)]at hf⊢;have g0:=TGo.set hT (hf.2 t.name (by simp)) 1 (qbr ts.loops t.name true);have hfb:=(hf.right g0).left;have z1:=blk_zero h0;have g1:=go_seq t.body _ g0.ok hfb z1;have s1:=SV.blk g0.ok hfb g1 (by rw[hbody]at hfb z1⊢;exact sv_seq body _ g0.ok hfb z1) z1;have g1':=TGo.blk (l:=t.body) (f:=qde t.body) (fun g=>go_seq t.body _ g0.ok hfb g) h0;refine⟨fun k _=>?_,fun k hk=>?_,fun g=>?_⟩
   ·simp only;rw[kGet_del _ _ _ g1'.ok.nod];by_cases e:t.name=k
    ·rw[if_pos e];have hn:=hf.2 t.name (by simp);rcases hx:qbg ts.visible k with _|v
     ·rfl
     ·have:=hT.sub _ _ hx;rw[←e,qcy.2 hn]at this;cases this
    ·rw[if_neg e,s1.vis k (by simp)];simp only;rw[qb3,if_neg e]
   ·simp only[List.mem_append,List.mem_singleton,not_or]at hk;simp only;rw[s1.lp k hk.2.1];simp only;rw[qb3,if_neg (fun e=>hk.1 e.symm)]
   ·simp only;refine s1.lk fun k v hv=>?_;simp only at hv⊢;rw[qb3]at hv;split at hv
    ·rename_i e;exact(qcr _ _ _ _).2 (.inl e.symm)
    ·exact(qcr _ _ _ _).2 (.inr (g k v hv))
  ·rw[if_neg h6];exact .refl _ _ _
theorem sv_seq:∀(l:List St) (ts:TS),TOk ts→fresh (nmL l) ts→(qde l ts).1=0→SV (nmL l) (letsL l) ts (qde l ts).2
 | [],ts,hT,hf,h0=>by rw[qde];exact .refl _ _ _
 |t::l,ts,hT,hf,h0=>by
  rw[qde]at h0⊢;rw[nmL]at hf⊢;by_cases he:(stT t ts).1≠0
  ·rw[if_pos he]at h0;exact(he h0).elim
  rw[if_neg he]at h0⊢;have he:(stT t ts).1=0:=by simpa using he
  have s1:=sv_st t ts hT hf.left he;have g1:=go_st t ts hT hf.left he;have s2:=sv_seq l _ g1.ok (hf.right g1) h0;refine⟨fun k hk=>?_,fun k hk=>?_,fun g=>s2.lk (s1.lk g)⟩
  ·rw[letsL]at hk;by_cases h1:t.op=1
   ·rw[if_pos h1]at hk s1;simp only[List.mem_cons,not_or]at hk;exact(s2.vis k hk.2).trans (s1.vis k (by simpa using hk.1))
   ·rw[if_neg h1]at hk s1;exact(s2.vis k hk).trans (s1.vis k (by simp))
  ·simp only[List.mem_append,not_or]at hk;exact(s2.lp k hk.2).trans (s1.lp k hk.1)
end
theorem TR.blk{l:List St}{ts:TS}{vars:Vis}{loops:List qac}(h:TR ts vars loops)(hT:TOk ts)(hf:fresh (nmL l) ts)(h0:(qde l ts).1=0):TR (qch l (qde l) ts).2 vars loops:=by
 have g:=go_seq l ts hT hf h0;have s:=SV.blk hT hf g (sv_seq l ts hT hf h0) h0;have e:(qch l (qde l) ts).2.all=(qde l ts).2.all:=by unfold qch;rw[if_neg (by simp[h0])]
 have sub:∀k,k∈qcj ts.all→k∈qcj (qch l (qde l) ts).2.all:=fun k hk=>by
  rw[e];rcases hx:qbg ts.all k with _|v
  ·exact(qcy.1 hx hk).elim
  ·have:=g.mono _ _ hx;exact Classical.byContradiction fun hn=>by rw[qcy.2 hn]at this;cases this
 refine⟨fun k=>(s.vis k (by simp)).trans (h.vis k),fun k hk=>?_,fun k hk=>sub k (h.lin k hk),s.lk h.lk,h.ty⟩;by_cases hn:k∈nmL l
 ·have h1:=hf.2 k hn;exact(h.keys hT h1 hk).elim
 ·rw[s.lp k hn];exact h.lp k hk
mutual
theorem rst_eq:∀(t:St) (d:Nat) (ts:TS) (vars:Vis) (loops:List qac),okS t d→TOk ts→fresh (nmS t) ts→TR ts vars loops→rstT t vars loops=(stT t ts).1∧((stT t ts).1=0→TR (stT t ts).2 (if t.op=1 then vars++[(t.name,(qc5 vars t).1)]else vars) loops)
 | .mk op name mx a b body els,d,ts,vars,loops,hok,hT,hf,h=>by
  obtain⟨t,ht⟩:∃t:St,t=.mk op name mx a b body els:=⟨_,rfl⟩
  have hbody:t.body=body:=by rw[ht];rfl
  have hels:t.els=els:=by rw[ht];rfl
  rw[←ht]at hok hf⊢;have hok':=(qco _ _).1 hok;rw[nmS_eq]at hf;rw[stT_eq];unfold stStep;rw[opsT_same h.vis t];have hop:=okS_op hok;by_cases he:(qc5 vars t).2.2≠0
  ·rw[if_pos he];have e:rstT t vars loops=(qc5 vars t).2.2:=by rw[rstT_eq];simp[he]
   rw[e];exact⟨rfl,fun g=>(he g).elim⟩
  rw[if_neg he];have he:(qc5 vars t).2.2=0:=by simpa using he
  by_cases h1:t.op=1
  ·rw[if_pos h1,if_pos h1];have e:rstT t vars loops=0:=by rw[rstT_eq];simp[he,h1,qby]
   rw[e];refine⟨rfl,fun _=>?_⟩;rw[if_pos (.inl h1)]at hf;have hr:1≤(qc5 vars t).1∧(qc5 vars t).1≤3:=by
    unfold qc5 at he⊢;rw[if_neg (by omega),if_neg (by omega)]at he⊢;exact ofE_rng vars t.a he
   exact h.decl hT (hf.2 t.name (by simp)) hr.1 hr.2
  rw[if_neg h1,if_neg h1];by_cases h2:t.op=2
  ·rw[if_pos h2];have e:rstT t vars loops=assignT vars loops t.name (qc5 vars t).1:=by rw[rstT_eq];simp[he,h2,qby]
   rw[e];unfold assignT;rw[h.vis];rcases hx:qbg vars t.name with _|ty
   ·exact⟨rfl,fun g=>by cases g⟩
   ·have hty:=h.ty _ _ hx;have hv:varT (some ty)=(ty,0):=by rw[varT,if_neg (by omega)]
    rw[hv];simp only[ne_eq,not_true_eq_false,if_false];have hk:t.name∈qcj vars:=Classical.byContradiction fun hn=>by rw[qcy.2 hn]at hx;cases hx
    have hl:=h.lp t.name hk;refine⟨?_,fun _=>h⟩;by_cases hm:qd1 loops t.name=true
    ·rw[if_pos hm,if_pos (hl.2 (hasK_iff.1 hm))]
    ·rw[if_neg hm,if_neg (fun g=>hm (hasK_iff.2 (hl.1 g)))];by_cases hq:ty=(qc5 vars t).1
     ·rw[if_neg (by simp[hq]),if_neg (by simp[hq])]
     ·rw[if_pos (fun g=>hq g.symm),if_pos hq]
  rw[if_neg h2];by_cases h3:t.op=3
  ·rw[if_pos h3];have e:rstT t vars loops=if (qc5 vars t).1≠2∨(qc5 vars t).2.1=3 then 10 else 0:=by rw[rstT_eq];simp[he,h3,qby]
   rw[e];exact⟨rfl,fun _=>h⟩
  rw[if_neg h3];by_cases h4:t.op=4
  ·rw[if_pos h4];have e:rstT t vars loops=if (qc5 vars t).1≠2 then 10 else 0:=by rw[rstT_eq];simp[he,h4,qby]
   rw[e];exact⟨rfl,fun _=>h⟩
  rw[if_neg h4];by_cases h7:t.op=7
  ·rw[if_pos h7];have e:rstT t vars loops=if (qc5 vars t).1=3 then 10 else 0:=by rw[rstT_eq];simp[he,h7,qby]
   rw[e];exact⟨rfl,fun _=>h⟩
  rw[if_neg h7];by_cases h5:t.op=5
  ·rw[if_pos h5];rw[if_neg (by omega),List.nil_append]at hf;by_cases hq:(qc5 vars t).1≠3
   ·rw[if_pos hq];have e:rstT t vars loops=10:=by rw[rstT_eq];simp[he,h5,qby,hq]
    rw[e];exact⟨rfl,fun g=>by simp at g⟩
   rw[if_neg hq];have hq':(qc5 vars t).1=3:=by simpa using hq
   have e:rstT t vars loops=if qdr t.body vars loops=0 then qdr t.els vars loops else qdr t.body vars loops:=by rw[rstT_eq];simp[he,h5,qby,hq']
   rw[e];have r1:qdr t.body vars loops=(qde t.body ts).1:=by
    have hf':=hf.left;rw[hbody]at hf'⊢;exact rseq_eq body (d+1) ts vars loops (by rw[←hbody];exact hok'.2.1) hT hf' h
   rw[r1];by_cases hz:(qde t.body ts).1=0
   ·have hb0:(qch t.body (qde t.body) ts).1=0:=by unfold qch;rw[if_neg (by simp[hz])]
    rw[hz,if_pos rfl,if_neg (by simp[hb0])];have g1:=TGo.blk (l:=t.body) (f:=qde t.body) (fun g=>go_seq t.body ts hT hf.left g) hb0;have hf2:=hf.right g1;have hR:=h.blk hT hf.left hz;have r2:qdr t.els vars loops=(qde t.els (qch t.body (qde t.body) ts).2).1:=by
     have hf':=hf2;rw[hels]at hf'⊢;exact rseq_eq els (d+1) _ vars loops (by rw[←hels];exact hok'.2.2) g1.ok hf' hR
    rw[r2];exact⟨by rw[blk_fst],fun g=>hR.blk g1.ok hf2 (blk_zero g)⟩
   ·have hb0:qch t.body (qde t.body) ts=qde t.body ts:=by unfold qch;rw[if_pos hz]
    rw[if_neg hz,hb0,if_pos hz];exact⟨rfl,fun g=>(hz g).elim⟩
  rw[if_neg h5];by_cases h6:t.op=6
  ·rw[if_pos h6];rw[if_pos (.inr h6)]at hf;by_cases hq:(qc5 vars t).1≠1∨(qc5 vars t).2.1≠1
   ·rw[if_pos hq];have e:rstT t vars loops=10:=by rw[rstT_eq];simp[he,h6,qby,hq]
    rw[e];exact⟨rfl,fun g=>by simp at g⟩
   rw[if_neg hq];have hq':(qc5 vars t).1=1∧(qc5 vars t).2.1=1:=by simpa[not_or]using hq
   have e:rstT t vars loops=qdr t.body (vars++[(t.name,1)]) (loops++[t.name]):=by rw[rstT_eq];simp[he,h6,qby,hq'.1,hq'.2]
   rw[e];have hn:=hf.2 t.name (by simp);have g0:=TGo.set hT hn 1 (qbr ts.loops t.name true);have hfb:=(hf.right g0).left;have hR:=h.loop hT hn;have r1:qdr t.body (vars++[(t.name,1)]) (loops++[t.name])=(qde t.body ⟨qbr ts.visible t.name 1,qbr ts.loops t.name true,qbr ts.all t.name 1⟩).1:=by
    have hf':=hfb;rw[hbody]at hf'⊢;exact rseq_eq body (d+1) _ _ _ (by rw[←hbody];exact hok'.2.1) g0.ok hf' hR
   rw[r1];refine⟨?_,fun g=>?_⟩
   ·simp only;rw[blk_fst]
   ·have hz:=blk_zero g;have hR1:=hR.blk g0.ok hfb hz;have g1:=TGo.blk (l:=t.body) (f:=qde t.body) (fun g=>go_seq t.body _ g0.ok hfb g) g;have hsv:=sv_st t ts hT (by rw[nmS_eq,if_pos (.inr h6)];exact hf) (by
     rw[stT_eq];unfold stStep;rw[opsT_same h.vis t,if_neg (by simp[he]),if_neg h1,if_neg h2,if_neg h3,if_neg h4,if_neg h7,if_neg h5,if_pos h6,if_neg hq];exact g)
    have hsT:(stT t ts).2=⟨kDel (qch t.body (qde t.body) ⟨qbr ts.visible t.name 1,qbr ts.loops t.name true,qbr ts.all t.name 1⟩).2.visible t.name,(qch t.body (qde t.body) ⟨qbr ts.visible t.name 1,qbr ts.loops t.name true,qbr ts.all t.name 1⟩).2.loops,(qch t.body (qde t.body) ⟨qbr ts.visible t.name 1,qbr ts.loops t.name true,qbr ts.all t.name 1⟩).2.all⟩:=by
     rw[stT_eq];unfold stStep;rw[opsT_same h.vis t,if_neg (by simp[he]),if_neg h1,if_neg h2,if_neg h3,if_neg h4,if_neg h7,if_neg h5,if_pos h6,if_neg hq]
    rw[hsT,if_neg h1]at hsv;refine⟨fun k=>(hsv.vis k (by simp)).trans (h.vis k),fun k hk=>?_,fun k hk=>hR1.lin k (by simp[hk]),hR1.lk,h.ty⟩;have hne:k≠t.name:=fun e=>by subst e;exact h.keys hT hn hk
    have:=hR1.lp k ((keysV_app _ _ _ _).2 (.inl hk));simp only at this⊢;rw[this];simp[hne]
  ·rcases hop with g|g|g|g|g|g|g|g
   ·exact(h1 g).elim
   ·exact(h2 g).elim
   ·exact(h3 g).elim
   ·exact(h4 g).elim
   ·exact(h5 g).elim
   ·exact(h6 g).elim
   ·exact(h7 g).elim
   ·rw[if_neg h6];have e:rstT t vars loops=0:=by rw[rstT_eq];simp[he,g,qby]
    rw[e];exact⟨rfl,fun _=>h⟩
theorem rseq_eq:∀(l:List St) (d:Nat) (ts:TS) (vars:Vis) (loops:List qac),okL l d→TOk ts→fresh (nmL l) ts→TR ts vars loops→qdr l vars loops=(qde l ts).1
 | [],d,ts,vars,loops,_,_,_,_=>by rw[qdr,qde]
 |t::l,d,ts,vars,loops,hok,hT,hf,h=>by
  rw[nmL]at hf;have r1:=rst_eq t d ts vars loops (hok t (by simp)) hT hf.left h;rw[qdr,qde,r1.1];by_cases he:(stT t ts).1≠0
  ·rw[if_pos he,if_pos he]
  ·rw[if_neg he,if_neg he];have he:(stT t ts).1=0:=by simpa using he
   have g1:=go_st t ts hT hf.left he;exact rseq_eq l d _ _ _ (fun x hx=>hok x (by simp[hx])) g1.ok (hf.right g1) (r1.2 he)
end
def dupL:List qac→List qac→Bool
 |_,[]=>false
 |pre,x::l=>qd1 pre x||dupL (pre++[x]) l
theorem dupL_iff:∀(l pre:List qac),dupL pre l=false↔l.Nodup∧∀x∈l,x∉pre
 | [],pre=>by simp[dupL]
 |x::l,pre=>by
  have hk:qd1 pre x=false↔x∉pre:=by rw[←hasK_iff];simp
  rw[dupL,Bool.or_eq_false_iff,dupL_iff l (pre++[x]),List.nodup_cons,hk];constructor
  ·rintro⟨h1,h2,h3⟩;refine⟨⟨fun hm=>h3 x hm (by simp),h2⟩,fun y hy=>?_⟩;rcases List.mem_cons.1 hy with rfl|hy
   ·exact h1
   ·exact fun g=>h3 y hy (by simp[g])
  ·rintro⟨⟨h1,h2⟩,h3⟩;refine⟨h3 x (by simp),h2,fun y hy g=>?_⟩;rcases List.mem_append.1 g with g|g
   ·exact h3 y (by simp[hy]) g
   ·exact h1 (List.mem_singleton.1 g▸hy)
theorem dup_same(l:List qac):dupM [] l=dupL [] l:=by
 have h1:=dupM_iff l [] (by simp);have h2:=dupL_iff l [];simp only[qcj,List.map_nil]at h1;cases a:dupM [] l<;>cases b:dupL [] l<;>simp_all
abbrev visP(l:List Param):Vis:=l.map fun p=>(p.name,p.ty)
def rtypeErr(p:Proc):Int :=
 if qcn p≠0 then qcn p
 else if p.params.any (fun x=>decide (x.ty=3))then 10
 else if dupL [] (qd4 p)then 8
 else qdr p.body (visP p.params) []
theorem TR.params:∀(ps pre:List Param) (ts:TS),TOk ts→fresh (ps.map (·.name)) ts→TR ts (visP pre) []→(∀x∈ps,1≤x.ty∧x.ty≤3)→TR (declP ps ts) (visP (pre++ps)) []
 | [],pre,ts,_,_,h,_=>by rw[List.append_nil];exact h
 |x::l,pre,ts,hT,hf,h,ht=>by
  have hd:declP (x::l) ts=declP l (ts.decl x.name x.ty):=rfl;rw[hd];have hf':fresh ([x.name]++l.map (·.name)) ts:=hf
  have hn:=hf'.2 x.name (by simp);have g:=TGo.set hT hn x.ty ts.loops;have hx:=ht x (by simp);have:=TR.params l (pre++[x]) (ts.decl x.name x.ty) g.ok (hf'.right g) (by
   have e:visP (pre++[x])=visP pre++[(x.name,x.ty)]:=by simp[visP]
   rw[e];exact h.decl hT hn hx.1 hx.2) (fun y hy=>ht y (by simp[hy]))
  rw[List.append_assoc]at this;exact this
theorem params_ty:∀(l pre:List Param),qc4 pre l=0→∀x∈l,1≤x.ty∧x.ty≤3
 | [],pre,_=>by simp
 |x::l,pre,h=>by
  rw[qc4]at h;split at h
  ·cases h
  split at h
  ·cases h
  rename_i h2;split at h
  ·cases h
  intro y hy;rcases List.mem_cons.1 hy with rfl|hy
  ·omega
  ·exact params_ty l _ h y hy
theorem valid_params{p:Proc}(h:qcn p=0):∀x∈p.params,1≤x.ty∧x.ty≤3:=by
 unfold qcn at h;split at h
 ·cases h
 split at h
 ·rename_i h1;exact(h1 h).elim
 ·rename_i h1;simp only[Decidable.not_not]at h1;unfold paramsE at h1;split at h1
  ·cases h1
  ·exact params_ty _ _ h1
theorem rtypeErr_eq(p:Proc):rtypeErr p=qc1 p:=by
 unfold rtypeErr qc1;rw[dup_same];by_cases hv:qcn p≠0
 ·rw[if_pos hv,if_pos hv]
 rw[if_neg hv,if_neg hv];have hv:qcn p=0:=by simpa using hv
 by_cases h3:(p.params.any fun x=>decide (x.ty=3))=true
 ·rw[if_pos h3,if_pos h3]
 rw[if_neg h3,if_neg h3];by_cases hd:dupL [] (qd4 p)=true
 ·rw[if_pos hd,if_pos hd]
 rw[if_neg hd,if_neg hd];have hd:dupL [] (qd4 p)=false:=by simpa using hd
 rw[namesP_eq hv]at hd;have hnd:=((dupL_iff _ []).1 hd).1;have hF:fresh (p.params.map (·.name)++nmL p.body) ⟨[],[],[]⟩:=⟨hnd,by simp[qcj]⟩
 have hT0:TOk ⟨[],[],[]⟩:=⟨by simp[qcj],.refl _⟩
 have gP:=go_params p.params ⟨[],[],[]⟩ hT0 hF.left;have hR0:TR ⟨[],[],[]⟩ (visP []) []:=⟨fun _=>rfl,fun k hk=>(by cases hk),fun k hk=>(by cases hk),fun k v hk=>(by simp[qbg]at hk),fun k v hk=>(by simp[qbg]at hk)⟩
 have hR:=TR.params p.params [] _ hT0 hF.left hR0 (valid_params hv);rw[rseq_eq p.body 1 _ _ _ (validP_ok hv) gP.ok (hF.right gP) (by simpa using hR)];unfold blkT qch;split
 ·rfl
 ·rename_i hn;simpa using hn
end Go.Cw

namespace Go.Cw
open Go Go.Abs
abbrev cut(n:Int):Int:=mn n 16385
mutual
def rgE:Ex→Int
 | .mk op _ _ args=>rgL args (if op=22∨op=23∨op=24 then 1 else 0)
def rgL:List Ex→Int→Int
 | [],n=>n
 |e::l,n=>rgL l (cut (W64 (n+rgE e)))
end
theorem rgE_eq(e:Ex):rgE e=rgL e.args (if e.op=22∨e.op=23∨e.op=24 then 1 else 0):=by cases e;rw[rgE];rfl
mutual
theorem rgE_sat:∀(e:Ex),rgE e=mn (gE e) 16385
 | .mk op n s args=>by
  have m0:(0:Int)=mn (0:Nat) 16385:=by decide
  have m1:(1:Int)=mn (1:Nat) 16385:=by decide
  rw[rgE,gE];split
  ·rw[m1,rgL_sat]
  ·rw[m0,rgL_sat]
theorem rgL_sat:∀(l:List Ex) (N:Nat),rgL l (mn N 16385)=mn (N+gL l:Nat) 16385
 | [],N=>by rw[rgL,gL];rfl
 |e::l,N=>by
  rw[rgL,rgE_sat e,cut,mn_add,rgL_sat l,gL,Nat.add_assoc]
end
def rown(t:St):Cnt:=⟨1,cut (W64 (rgE t.a+rgE t.b)),if t.op=3∨t.op=4 then 1 else 0,if t.op=7 then 1 else 0⟩
def Cnt.rtimes(n:Int)(x:Cnt):Cnt:=⟨cut (W64 (n * x.st)),cut (W64 (n * x.ge)),cut (W64 (n * x.pu)),cut (W64 (n * x.em))⟩
mutual
def rcS:St→Cnt
 | .mk op name m a b body els =>
  let x:=rown (.mk op name m a b body els)
  let x:=if op=5 then x.plus ((rcL body ⟨0,0,0,0⟩).larger (rcL els ⟨0,0,0,0⟩))else x
  if op=6 then(x.plus (Cnt.rtimes m (rcL body ⟨0,0,0,0⟩))).plus ⟨m,0,0,0⟩else x
def rcL:List St→Cnt→Cnt
 | [],c=>c
 |t::l,c=>rcL l (c.plus (rcS t))
end
abbrev rcB(l:List St):Cnt:=rcL l ⟨0,0,0,0⟩
theorem rcS_eq(t:St):rcS t =
  (let x:=rown t
  let x:=if t.op=5 then x.plus ((rcB t.body).larger (rcB t.els))else x
  if t.op=6 then(x.plus (Cnt.rtimes t.max (rcB t.body))).plus ⟨t.max,0,0,0⟩else x):=by cases t;rw[rcS];rfl
theorem gE_abs{e:Ex}(h:absE e=true):gE e=0:=by
 unfold absE at h;simp only[Bool.and_eq_true,decide_eq_true_eq]at h;rw[gE_eq,List.eq_nil_of_length_eq_zero h.2,gL,if_neg (by omega)]
theorem shape_b{t:St}{d:Nat}(h:okS t d)(h3:¬(t.op=3∨t.op=6)):absE t.b=true:=by
 have h1:=((qco t d).1 h).1;have hs:qb9 t (qa8 t.op).1=true:=by
  unfold qbo at h1;by_cases g:(qa8 t.op).2=false∨qb9 t (qa8 t.op).1=false
  ·rw[if_pos g]at h1;cases h1
  ·simp at g;exact g.2
 have hu:(qa8 t.op).1.b=false:=by
  unfold qa8
  repeat' split
  all_goals first|rfl|omega
 unfold qb9 at hs;simp[hu]at hs;exact hs.1.1.1.1.2
theorem shape_a{t:St}{d:Nat}(h:okS t d)(h8:t.op=8):absE t.a=true:=by
 have h1:=((qco t d).1 h).1;have hs:qb9 t (qa8 t.op).1=true:=by
  unfold qbo at h1;by_cases g:(qa8 t.op).2=false∨qb9 t (qa8 t.op).1=false
  ·rw[if_pos g]at h1;cases h1
  ·simp at g;exact g.2
 have hu:(qa8 t.op).1.a=false:=by rw[h8];rfl
 unfold qb9 at hs;simp[hu]at hs;exact hs.1.1.1.1.1.2
def n1(t:St):N4:=⟨1,gE t.a+gE t.b,if t.op=3∨t.op=4 then 1 else 0,if t.op=7 then 1 else 0⟩
theorem rown_sat(t:St):rown t=sat (n1 t):=by
 have m0:mn 0 16385=0:=by decide
 have m1:mn 1 16385=1:=by decide
 unfold rown sat n1;rw[rgE_sat,rgE_sat,cut,mn_add];have e1:mn ((1:Nat):Int) 16385=1:=m1;have e2:∀P:Prop,[Decidable P]→mn (((if P then 1 else 0:Nat):Nat):Int) 16385=if P then 1 else 0:=fun P _=>by by_cases h:P<;>simp[h,m0,m1]
 simp only[e1,e2]
theorem rtimes_eq(n:Int)(x:Cnt):Cnt.rtimes n x=x.times n:=by
 simp only[Cnt.rtimes,Cnt.times,Int.mul_comm n]
theorem n1_eq{t:St}{d:Nat}(h:okS t d):n1 t=N4.one.add ⟨0,(n0 t.op t.max t.a t.b).ge,(n0 t.op t.max t.a t.b).pu,(n0 t.op t.max t.a t.b).em⟩:=by
 unfold n1 N4.one N4.add n0;simp only[Nat.zero_add,Nat.add_zero,N4.mk.injEq,true_and,and_true];by_cases h8:t.op=8
 ·rw[if_pos h8,gE_abs (shape_a h h8),gE_abs (shape_b h (by omega)),if_neg (by omega)]
 ·rw[if_neg h8];by_cases h3:t.op=3∨t.op=6
  ·rw[if_pos h3]
  ·rw[if_neg h3,gE_abs (shape_b h h3)]
theorem rcL_sat{l:List St}:∀(x:N4),(∀t∈l,rcS t=sat (N4.one.add (nS t)))→rcL l (sat x)=sat (x.add (nL l)):=by
 induction l with
 |nil=>intro x _;rw[rcL,nL];rfl
 |cons t l ih =>
  intro x h;rw[rcL,h t (by simp),sat_add,ih _ (fun y hy=>h y (by simp[hy])),nL];simp only[N4.add,Nat.add_assoc]
theorem rcS_sat:∀(t:St) (d:Nat),okS t d→rcS t=sat (N4.one.add (nS t))
 | .mk op name mx a b body els,d,h=>by
  have h1:=(qco _ _).1 h;have hb:rcB body=sat (nL body):=by
   have:=rcL_sat (l:=body) .zero fun x hx=>by
    have:=List.sizeOf_lt_of_mem (show x∈body from hx);exact rcS_sat x (d+1) (h1.2.1 x hx)
   rw[sat_zero,zero_add]at this;exact this
  have he:rcB els=sat (nL els):=by
   have:=rcL_sat (l:=els) .zero fun x hx=>by
    have:=List.sizeOf_lt_of_mem (show x∈els from hx);exact rcS_sat x (d+1) (h1.2.2 x hx)
   rw[sat_zero,zero_add]at this;exact this
  obtain⟨t,ht⟩:∃t:St,t=.mk op name mx a b body els:=⟨_,rfl⟩
  have hbody:t.body=body:=by rw[ht];rfl
  have hels:t.els=els:=by rw[ht];rfl
  rw[←ht]at h⊢;rw[←hbody]at hb;rw[←hels]at he;rw[rcS_eq,nS_eq,rown_sat,n1_eq h];simp only;by_cases h5:t.op=5
  ·rw[if_pos h5,if_pos h5,if_neg (by omega),hb,he,sat_max,sat_add];congr 1;simp[N4.add,N4.one,n0,h5,Nat.add_assoc]
  by_cases h6:t.op=6
  ·have hm:=okS_max h h6;have e1:(⟨t.max,0,0,0⟩:Cnt)=sat ⟨t.max.toNat,0,0,0⟩:=by
    have m0:mn 0 16385=0:=by decide
    unfold sat;rw[mn_small (show t.max.toNat≤16385 by omega)];simp[m0];omega
   rw[if_neg h5,if_pos h6,if_neg h5,if_pos h6,rtimes_eq,hb,sat_mul hm.1 hm.2,e1,sat_add,sat_add];congr 1;simp[N4.add,N4.one,N4.mul,n0,h6];omega
  ·rw[if_neg h5,if_neg h6,if_neg h5,if_neg h6,add_zero];congr 1;simp[N4.add,N4.one,n0,h6]
termination_by t=>SizeOf.sizeOf t
decreasing_by
 all_goals
  simp only[St.mk.sizeOf_spec];omega
theorem rcB_eq{l:List St}{d:Nat}(h:okL l d):rcB l=cntB l:=by
 have:=rcL_sat (l:=l) .zero fun x hx=>rcS_sat x d (h x hx);rw[sat_zero,zero_add]at this;rw[cntB_sat h];exact this
abbrev opsE(e:Ex):List Int:=(preE e).map (·.op)
abbrev opsL(l:List Ex):List Int:=(preL l).map (·.op)
theorem opsE_eq(e:Ex):opsE e=e.op::opsL e.args:=by simp[opsE,opsL,preE_eq]
theorem opsL_cons(e:Ex)(l:List Ex):opsL (e::l)=opsE e++opsL l:=by simp[opsE,opsL,preL]
def firstI:List Int→Int→Int×Int×Bool
 | [],_=>(0,0,false)
 |o::l,k=>if nonDet o then(o,k,true)else firstI l (k+1)
theorem firstN_I:∀(l:List Ex) (k:Int),firstN l k=firstI (l.map (·.op)) k
 | [],k=>rfl
 |e::l,k=>by
  simp only[firstN,List.map_cons,firstI,firstN_I l]
theorem firstP_eq{p:Proc}(h:qcn p=0):firstP p=firstI (opsL (qcc p)) 0:=by
 unfold firstP;rw[if_neg (by simp[h]),firstN_I]
end Go.Cw
