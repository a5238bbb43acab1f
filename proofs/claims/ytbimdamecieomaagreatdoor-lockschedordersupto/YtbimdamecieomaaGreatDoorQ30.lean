/- Part 30 of a proof: CwSa, CwSb, CwSc, CwVa, CwVb, CwVc, CwVd, CwVe, CwVf -/
import Derived.Lib.ItoaLen
import Derived.Test.YtbimdamecieomaaGreatDoorQ29
set_option linter.all false

namespace Go.Cw
open Go Go.Abs
abbrev Vis:=List (qac×Int)
def subV (a b:Vis):Prop:=∀ k ty,qcu a k=some ty→qcu b k=some ty
theorem subV.refl (a:Vis):subV a a:=fun _ _ h=>h
theorem subV.trans {a b c:Vis} (h:subV a b) (g:subV b c):subV a c:=fun k ty e=>g k ty (h k ty e)
def qcd {α:Type} (l:List (qac×α)):List qac:=l.map (·.1)
theorem qdb {α:Type}:∀ {l:List (qac×α)} {k:qac},qcu l k=none↔k∉qcd l
 | [],k=>by simp [qcu,qcd]
 | p::l,k=>by
  have ih:=qdb (l:=l) (k:=k);simp only [qcu,qcd,List.map_cons,List.mem_cons,not_or] at ih ⊢;by_cases h:p.1=k
  · simp [h]
  ·
   rw [if_neg h,ih];exact ⟨fun g=>⟨fun e=>h e.symm,g⟩,fun g=>g.2⟩
theorem qcg {α:Type}:∀ (l:List (qac×α)) (k:qac) (v:α) (x:qac),x∈qcd (qda l k v)↔x=k∨x∈qcd l
 | [],k,v,x=>by simp [qda,qcd]
 | p::l,k,v,x=>by
  have ih:=qcg l k v x;rw [qda];split
  ·
   rename_i h;subst h;simp [qcd]
  ·
   simp only [qcd,List.map_cons,List.mem_cons] at ih ⊢;rw [ih];constructor
   · rintro (h | h | h)<;>simp [h]
   · rintro (h | h | h)<;>simp [h]
theorem nodV_set {α:Type}:∀ (l:List (qac×α)) (k:qac) (v:α),(qcd l).Nodup→(qcd (qda l k v)).Nodup
 | [],k,v,_=>by simp [qda,qcd]
 | p::l,k,v,h=>by
  have h':p.1∉qcd l∧(qcd l).Nodup:=List.nodup_cons.1 h;rw [qda];split
  ·
   rename_i e;subst e;exact h
  ·
   rename_i e;refine List.nodup_cons.2 ⟨fun hm=>?_,nodV_set l k v h'.2⟩;rcases (qcg l k v _).1 hm with e' | hm
   · exact e e'
   · exact h'.1 hm
theorem kDel_sub {α:Type}:∀ (l:List (qac×α)) (k:qac),(kDel l k).Sublist l
 | [],_=>by simp [kDel]
 | p::l,k=>by
  rw [kDel];split
  · exact List.sublist_cons_self _ _
  · exact (kDel_sub l k).cons₂ _
theorem kGet_of_mem {α:Type}:∀ {l:List (qac×α)} {k:qac} {v:α},(qcd l).Nodup→(k,v)∈l→qcu l k=some v
 | p::l,k,v,hd,h=>by
  have hd':p.1∉qcd l∧(qcd l).Nodup:=List.nodup_cons.1 hd;rw [qcu];rcases List.mem_cons.1 h with rfl | h
  · simp
  ·
   rw [if_neg]
   · exact kGet_of_mem hd'.2 h
   ·
    intro e;exact hd'.1 (List.mem_map.2 ⟨(k,v),h,e.symm⟩)
structure TOk (ts:TS):Prop where
 nod:(qcd ts.visible).Nodup
 sub:subV ts.visible ts.all
theorem TOk.del {ts:TS} (h:TOk ts) (k:qac):TOk ⟨kDel ts.visible k,ts.loops,ts.all⟩:=⟨h.nod.sublist ((kDel_sub _ _).map _),fun x ty e=>h.sub x ty (by
 have:=(kDel_sub ts.visible k).subset (kGet_mem e);exact kGet_of_mem h.nod this)⟩
theorem TOk.dels (b:List (qac×Bool)) (a:Vis):∀ (l:List St) {vis:Vis},TOk ⟨vis,b,a⟩→TOk ⟨delLets l vis,b,a⟩
 | [],vis,h=>h
 | t::l,vis,h=>by
  rw [delLets];refine TOk.dels b a l ?_;split
  · exact h.del t.name
  · exact h
theorem TOk.set {ts:TS} (h:TOk ts) (k:qac) (ty:Int) (lp:List (qac×Bool)):TOk ⟨qda ts.visible k ty,lp,qda ts.all k ty⟩:=⟨nodV_set _ _ _ h.nod,fun x u e=>by
 simp only at e ⊢;rw [qd0] at e ⊢;split at e
 · rename_i hk;rw [if_pos hk];exact e
 · rename_i hk;rw [if_neg hk];exact h.sub x u e⟩
mutual
def nmS:St→List qac
 | .mk op name _ _ _ body els=>(if op=1∨op=6 then [name] else [])++(nmL body++nmL els)
def nmL:List St→List qac
 | []=>[]
 | t::l=>nmS t++nmL l
end
theorem nmS_eq (t:St):nmS t=(if t.op=1∨t.op=6 then [t.name] else [])++(nmL t.body++nmL t.els):=by cases t;rw [nmS];rfl
structure TGo (ns:List qac) (ts ts':TS):Prop where
 ok:TOk ts'
 mono:subV ts.all ts'.all
 keys:∀ k,k∈qcd ts'.all→k∈qcd ts.all∨k∈ns
theorem TGo.refl {ts:TS} (h:TOk ts) (ns:List qac):TGo ns ts ts:=⟨h,.refl _,fun _ h=>.inl h⟩
theorem TGo.mono' {ns ns':List qac} {ts ts':TS} (h:TGo ns ts ts') (hn:∀ k∈ns,k∈ns'):TGo ns' ts ts':=⟨h.ok,h.mono,fun k hk=>(h.keys k hk).imp id (hn k)⟩
theorem TGo.trans {a b:List qac} {s t u:TS} (h:TGo a s t) (g:TGo b t u):TGo (a++b) s u:=⟨g.ok,h.mono.trans g.mono,fun k hk=>by
 rcases g.keys k hk with hk | hk
 ·
  rcases h.keys k hk with hk | hk
  · exact .inl hk
  · exact .inr (by simp [hk])
 · exact .inr (by simp [hk])⟩
def fresh (ns:List qac) (ts:TS):Prop:=ns.Nodup∧∀ k∈ns,k∉qcd ts.all
theorem TGo.set {ts:TS} (h:TOk ts) {k:qac} (hk:k∉qcd ts.all) (ty:Int) (lp:List (qac×Bool)):TGo [k] ts ⟨qda ts.visible k ty,lp,qda ts.all k ty⟩:=⟨h.set k ty lp,fun x u e=>by
 simp only;rw [qd0];split
 ·
  rename_i hx;subst hx;rw [qdb.2 hk] at e;cases e
 · exact e,fun x hx=>by
 rcases (qcg _ _ _ _).1 hx with h | h
 · exact .inr (by simp [h])
 · exact .inl h⟩
theorem fresh.left {a b:List qac} {ts:TS} (h:fresh (a++b) ts):fresh a ts:=⟨(List.nodup_append.1 h.1).1,fun k hk=>h.2 k (by simp [hk])⟩
theorem fresh.right {a b:List qac} {ts ts':TS} (h:fresh (a++b) ts) (g:TGo a ts ts'):fresh b ts':=⟨(List.nodup_append.1 h.1).2.1,fun k hk hm=>by
 rcases g.keys k hm with hm | hm
 · exact h.2 k (by simp [hk]) hm
 · exact (List.nodup_append.1 h.1).2.2 k hm k hk rfl⟩
theorem TGo.blk {ns:List qac} {l:List St} {f:TS→Int×TS} {ts:TS} (hf:(f ts).1=0→TGo ns ts (f ts).2) (h0:(blkOf l f ts).1=0):TGo ns ts (blkOf l f ts).2:=by
 unfold blkOf at h0 ⊢;split at h0
 · rename_i h;exact (h h0).elim
 ·
  rename_i h;rw [if_neg h];have g:=hf (by simpa using h);exact ⟨TOk.dels _ _ l (vis:=(f ts).2.visible) g.ok,g.mono,g.keys⟩
theorem go_step (t:St) (B E:TS→Int×TS) (ts:TS) (h:TOk ts) (hf:fresh (nmS t) ts)
  (hB:∀ ts,TOk ts→fresh (nmL t.body) ts→(B ts).1=0→TGo (nmL t.body) ts (B ts).2)
  (hE:∀ ts,TOk ts→fresh (nmL t.els) ts→(E ts).1=0→TGo (nmL t.els) ts (E ts).2)
  (h0:(stStep t B E ts).1=0):TGo (nmS t) ts (stStep t B E ts).2:=by
 rw [nmS_eq] at hf ⊢;unfold stStep at h0 ⊢;by_cases he:(opsT ts.visible t).2.2≠0
 · rw [if_pos he] at h0;exact (he h0).elim
 rw [if_neg he] at h0 ⊢;by_cases h1:t.op=1
 ·
  rw [if_pos h1] at h0 ⊢;rw [if_pos (.inl h1)] at hf ⊢;exact (TGo.set h (hf.2 t.name (by simp)) _ _).mono' (fun k hk=>by simp at hk;simp [hk])
 rw [if_neg h1] at h0 ⊢;by_cases h2:t.op=2
 ·
  rw [if_pos h2];rcases qcu ts.visible t.name with _ | ty
  · exact .refl h _
  · exact .refl h _
 rw [if_neg h2] at h0 ⊢;by_cases h3:t.op=3
 · rw [if_pos h3];exact .refl h _
 rw [if_neg h3] at h0 ⊢;by_cases h4:t.op=4
 · rw [if_pos h4];exact .refl h _
 rw [if_neg h4] at h0 ⊢;by_cases h7:t.op=7
 · rw [if_pos h7];exact .refl h _
 rw [if_neg h7] at h0 ⊢;by_cases h5:t.op=5
 ·
  rw [if_pos h5] at h0 ⊢;by_cases h6:(opsT ts.visible t).1≠3
  · rw [if_pos h6] at h0;simp at h0
  rw [if_neg h6] at h0 ⊢;by_cases h8:(blkOf t.body B ts).1≠0
  · rw [if_pos h8] at h0;exact (h8 h0).elim
  rw [if_neg h8] at h0 ⊢;rw [if_neg (by omega),List.nil_append] at hf ⊢;have g1:=TGo.blk (l:=t.body) (fun g=>hB ts h hf.left g) (by simpa using h8);have g2:=TGo.blk (l:=t.els) (fun g=>hE _ g1.ok (hf.right g1) g) h0;exact g1.trans g2
 rw [if_neg h5] at h0 ⊢;by_cases h6:t.op=6
 ·
  rw [if_pos h6] at h0 ⊢;by_cases h8:(opsT ts.visible t).1≠1∨(opsT ts.visible t).2.1≠1
  · rw [if_pos h8] at h0;simp at h0
  rw [if_neg h8] at h0 ⊢;rw [if_pos (.inr h6)] at hf ⊢;have g0:=TGo.set h (hf.2 t.name (by simp)) 1 (qda ts.loops t.name true);have g1:=TGo.blk (l:=t.body) (fun g=>hB _ g0.ok (hf.right g0).left g) h0;have g2:=g0.trans g1;exact ⟨g1.ok.del t.name,g2.mono,fun k hk=>by
   rcases g2.keys k hk with hk | hk
   · exact .inl hk
   ·
    refine .inr ?_;simp only [List.mem_append] at hk ⊢;rcases hk with hk | hk
    · exact .inl hk
    · exact .inr (.inl hk)⟩
 ·
  rw [if_neg h6];exact .refl h _
mutual
theorem go_st:∀ (t:St) (ts:TS),TOk ts→fresh (nmS t) ts→(stT t ts).1=0→TGo (nmS t) ts (stT t ts).2
 | .mk op name mx a b body els,ts,h,hf,h0=>by
  rw [stT_eq] at h0 ⊢;exact go_step (.mk op name mx a b body els) _ _ ts h hf (fun ts=>go_seq body ts) (fun ts=>go_seq els ts) h0
theorem go_seq:∀ (l:List St) (ts:TS),TOk ts→fresh (nmL l) ts→(seqT l ts).1=0→TGo (nmL l) ts (seqT l ts).2
 | [],ts,h,hf,h0=>by rw [seqT];exact .refl h _
 | t::l,ts,h,hf,h0=>by
  rw [seqT] at h0 ⊢;rw [nmL] at hf ⊢;split at h0
  · rename_i he;exact (he h0).elim
  rename_i he;rw [if_neg he];have g1:=go_st t ts h hf.left (by simpa using he);exact g1.trans (go_seq l _ g1.ok (hf.right g1) h0)
end
def tyS (G:Vis) (s:MS):Prop:=∀ k v ty,qcu s.vars k=some v→qcu G k=some ty→v.k=ty
def qbo (op:Int):Int:=if 10≤op∧op≤15 then 3 else (qdh op).2
section
variable {C:Cfg}
end
end Go.Cw

namespace Go.Cw
open Go Go.Abs
section
variable (C:Cfg)
end
structure Pre (G:Vis) (r p:Nat) (s:MS) (m:RM):Prop where
 inv:Inv r p s
 vm:vM s
 ty:tyS G s
 sim:Sim s m
theorem Sim.set {s:MS} {m:RM} (h:Sim s m) (k:qac) (v:V):Sim { s with vars:=qda s.vars k v } { m with vars:=setR m.vars ⟨k,v⟩ }:=⟨fun x=>by
 simp only;rw [qd0,(setR_map _ _ _).1,(setR_map _ _ _).2];by_cases hx:k=x
 · simp [hx]
 · simp [hx,h.vars x],h.own,h.keys,h.out,h.reads,h.puts,h.steps,h.st,h.code,h.miss⟩
section
variable {C:Cfg} (hV:vC C) (hC:rngC C)
include hV hC
end
end Go.Cw

namespace Go.Cw
open Go Go.Abs
theorem Pre.mono {G:Vis} {r p r' p':Nat} {s:MS} {m:RM} (h:Pre G r p s m) (h1:r'≤r) (h2:p'≤p):Pre G r' p' s m:=⟨h.inv.mono h1 h2,h.vm,h.ty,h.sim⟩
section
variable {C:Cfg} (hV:vC C) (hC:rngC C) {G:Vis}
include hV hC
end
section
variable {σ τ:Type} (fS:σ→St→Nat→σ) (fR:σ→Ex→σ) (gS:τ→St→Nat→τ) (gR:τ→Ex→τ)
end
end Go.Cw

namespace Go.Cw
open Go Go.Abs
abbrev Ex.z:Ex:=.mk 0 0 em []
abbrev St.z:St:=.mk 0 em 0 Ex.z Ex.z [] []
structure Vt where
 isS:Bool
 t:St
 d:Nat
 e:Ex
 root:Bool
def Vt.c (v:Vt):List AV:=[Bo v.isS,I v.t.op,S v.t.name,I v.t.max,I v.t.a.op,I v.t.a.n,S v.t.a.s,.slice (v.t.a.args.map Ex.c),I v.t.b.op,I v.t.b.n,S v.t.b.s,.slice (v.t.b.args.map Ex.c),.slice (v.t.body.map St.c),.slice (v.t.els.map St.c),I v.d,I v.e.op,I v.e.n,S v.e.s,.slice (v.e.args.map Ex.c),Bo v.root]
def Vt.ofS (t:St) (d:Nat):Vt:=⟨true,t,d,Ex.z,false⟩
def Vt.ofE (e:Ex) (r:Bool):Vt:=⟨false,St.z,0,e,r⟩
mutual
def wkE:Ex→Bool→List Vt→List Vt
 | .mk op n s args,r,out=>if 400<out.length then out else wkEL args (out++[Vt.ofE (.mk op n s args) r])
def wkEL:List Ex→List Vt→List Vt
 | [],out=>out
 | e::l,out=>if out.length≤400 then wkEL l (wkE e false out) else out
end
def wkF (e:Ex) (out:List Vt):List Vt:=if absE e=true then out else wkE e true out
mutual
def wkS:St→Nat→List Vt→List Vt
 | .mk _ _ _ a b body els,d,out=>wkB els (d+1) (wkB body (d+1) (wkF b (wkF a out)))
def wkB:List St→Nat→List Vt→List Vt
 | [],_,out=>out
 | t::l,d,out=>if out.length≤400 then wkB l d (wkS t d (out++[Vt.ofS t d])) else out
end
section
variable {σ:Type} (fS:σ→St→Nat→σ) (fR:σ→Ex→σ)
end
end Go.Cw

namespace Go.Cw
open Go Go.Abs
theorem kGet_app {α:Type}:∀ (l:List (qac×α)) (k n:qac) (v:α),qcu (l++[(n,v)]) k=match qcu l k with | some x=>some x | none=>if n=k then some v else none
 | [],k,n,v=>by simp [qcu]
 | p::l,k,n,v=>by
  simp only [List.cons_append,qcu];split
  · rfl
  · exact kGet_app l k n v
structure TR (ts:TS) (vars:Vis) (loops:List qac):Prop where
 vis:∀ k,qcu ts.visible k=qcu vars k
 lp:∀ k,k∈qcd vars→(qcu ts.loops k=some true↔k∈loops)
 lin:∀ k∈loops,k∈qcd ts.all
 lk:∀ k v,qcu ts.loops k=some v→k∈qcd ts.all
 ty:∀ k v,qcu vars k=some v→1≤v∧v≤3
theorem TR.keys {ts:TS} {vars:Vis} {loops:List qac} (h:TR ts vars loops) (hT:TOk ts) {k:qac} (hk:k∉qcd ts.all):k∉qcd vars:=fun hm=>by
 rcases hx:qcu vars k with _ | v
 · exact qdb.1 hx hm
 ·
  rw [← h.vis] at hx;have:=hT.sub _ _ hx;rw [qdb.2 hk] at this;cases this
theorem keysV_app {α:Type} (l:List (qac×α)) (k:qac) (v:α) (x:qac):x∈qcd (l++[(k,v)])↔x∈qcd l∨x=k:=by
 simp [qcd]
theorem TR.decl {ts:TS} {vars:Vis} {loops:List qac} (h:TR ts vars loops) (hT:TOk ts) {k:qac} (hk:k∉qcd ts.all) {ty:Int} (h1:1≤ty) (h2:ty≤3):TR (ts.decl k ty) (vars++[(k,ty)]) loops:=by
 have hv:=h.keys hT hk;refine ⟨fun x=>?_,fun x hx=>?_,fun x hx=>(qcg _ _ _ _).2 (.inr (h.lin x hx)),fun x v hx=>(qcg _ _ _ _).2 (.inr (h.lk x v hx)),fun x v hx=>?_⟩
 ·
  simp only [TS.decl];rw [qd0,kGet_app,h.vis];by_cases e:k=x
  · subst e;rw [if_pos rfl,qdb.2 hv,if_pos rfl]
  · rw [if_neg e];rcases qcu vars x with _ | v<;>simp [e]
 ·
  rcases (keysV_app _ _ _ _).1 hx with hx | rfl
  · exact h.lp x hx
  ·
   simp only [TS.decl];constructor
   · intro hl;exact (hk (h.lk _ _ hl)).elim
   · intro hl;exact (hk (h.lin _ hl)).elim
 ·
  rw [kGet_app] at hx;rcases hg:qcu vars x with _ | w
  ·
   rw [hg] at hx;simp only at hx;split at hx
   · cases hx;exact ⟨h1,h2⟩
   · cases hx
  · rw [hg] at hx;cases hx;exact h.ty x _ hg
theorem TR.loop {ts:TS} {vars:Vis} {loops:List qac} (h:TR ts vars loops) (hT:TOk ts) {k:qac} (hk:k∉qcd ts.all):TR ⟨qda ts.visible k 1,qda ts.loops k true,qda ts.all k 1⟩ (vars++[(k,1)]) (loops++[k]):=by
 have hd:=h.decl hT hk (ty:=1) (by decide) (by decide);refine ⟨hd.vis,fun x hx=>?_,fun x hx=>?_,fun x v hx=>?_,hd.ty⟩
 ·
  simp only;rw [qd0];by_cases e:k=x
  · subst e;simp
  ·
   rw [if_neg e,List.mem_append,List.mem_singleton];rcases (keysV_app _ _ _ _).1 hx with hx | rfl
   ·
    rw [h.lp x hx];exact ⟨.inl,fun g=>g.elim id fun g=>(e g.symm).elim⟩
   · exact (e rfl).elim
 ·
  rw [List.mem_append,List.mem_singleton] at hx;rcases hx with hx | rfl
  · exact (qcg _ _ _ _).2 (.inr (h.lin x hx))
  · exact (qcg _ _ _ _).2 (.inl rfl)
 ·
  simp only at hx;rw [qd0] at hx;split at hx
  · rename_i e;exact (qcg _ _ _ _).2 (.inl e.symm)
  · exact (qcg _ _ _ _).2 (.inr (h.lk x v hx))
def letsL:List St→List qac
 | []=>[]
 | t::l=>if t.op=1 then t.name::letsL l else letsL l
theorem letsL_nm:∀ (l:List St) (k:qac),k∈letsL l→k∈nmL l
 | [],k,h=>by cases h
 | t::l,k,h=>by
  rw [nmL,nmS_eq];rw [letsL] at h;split at h
  ·
   rename_i h1;rw [if_pos (.inl h1)];rcases List.mem_cons.1 h with rfl | h
   · simp
   · have:=letsL_nm l k h;simp [this]
  · have:=letsL_nm l k h;simp [this]
theorem kGet_del {α:Type}:∀ (l:List (qac×α)) (n k:qac),(qcd l).Nodup→qcu (kDel l n) k=if n=k then none else qcu l k
 | [],n,k,_=>by simp [kDel,qcu]
 | p::l,n,k,h=>by
  have h':p.1∉qcd l∧(qcd l).Nodup:=List.nodup_cons.1 h;rw [kDel];by_cases e:p.1=n
  ·
   rw [if_pos e];by_cases e2:n=k
   · rw [if_pos e2,qdb,← e2,← e];exact h'.1
   · rw [if_neg e2,qcu,if_neg (by rw [e];exact e2)]
  ·
   rw [if_neg e,qcu,qcu,kGet_del l n k h'.2];by_cases e2:n=k
   · rw [if_pos e2,if_neg (by rw [← e2];exact e),if_pos e2]
   · rw [if_neg e2,if_neg e2]
theorem delLets_get:∀ (l:List St) (vis:Vis) (k:qac),(qcd vis).Nodup→qcu (delLets l vis) k=if qc8 (letsL l) k=true then none else qcu vis k
 | [],vis,k,_=>by simp [delLets,letsL,qc8,anyL]
 | t::l,vis,k,h=>by
  rw [delLets,letsL];split
  ·
   rename_i h1;rw [delLets_get l _ k (h.sublist ((kDel_sub _ _).map _)),kGet_del _ _ _ h];have hc:qc8 (t.name::letsL l) k=(decide (t.name=k)||qc8 (letsL l) k):=rfl;rw [hc];by_cases e:qc8 (letsL l) k=true
   · simp [e]
   ·
    by_cases e2:t.name=k
    · simp [e2]
    · simp [e,e2]
  · exact delLets_get l vis k h
structure SV (ns ls:List qac) (ts ts':TS):Prop where
 vis:∀ k,k∉ls→qcu ts'.visible k=qcu ts.visible k
 lp:∀ k,k∉ns→qcu ts'.loops k=qcu ts.loops k
 lk:(∀ k v,qcu ts.loops k=some v→k∈qcd ts.all)→∀ k v,qcu ts'.loops k=some v→k∈qcd ts'.all
theorem SV.refl (ns ls:List qac) (ts:TS):SV ns ls ts ts:=⟨fun _ _=>rfl,fun _ _=>rfl,id⟩
theorem SV.blk {l:List St} {f:TS→Int×TS} {ts:TS} (hT:TOk ts) (hf:fresh (nmL l) ts) (hg:TGo (nmL l) ts (f ts).2) (hs:SV (nmL l) (letsL l) ts (f ts).2) (h0:(f ts).1=0):SV (nmL l) [] ts (blkOf l f ts).2:=by
 unfold blkOf;rw [if_neg (by simp [h0])];refine ⟨fun k _=>?_,hs.lp,hs.lk⟩;simp only;rw [delLets_get _ _ _ hg.ok.nod];by_cases e:qc8 (letsL l) k=true
 ·
  rw [if_pos e];have hn:=hf.2 k (letsL_nm l k (qb3.1 e));rcases hx:qcu ts.visible k with _ | v
  · rfl
  ·
   have:=hT.sub _ _ hx;rw [qdb.2 hn] at this;cases this
 ·
  rw [if_neg e];exact hs.vis k (fun g=>e (qb3.2 g))
theorem blk_zero {l:List St} {f:TS→Int×TS} {ts:TS} (h:(blkOf l f ts).1=0):(f ts).1=0:=by
 unfold blkOf at h;by_cases hb:(f ts).1≠0
 · rw [if_pos hb] at h;exact (hb h).elim
 · simpa using hb
mutual
theorem sv_st:∀ (t:St) (ts:TS),TOk ts→fresh (nmS t) ts→(stT t ts).1=0→SV (nmS t) (if t.op=1 then [t.name] else []) ts (stT t ts).2
 | .mk op name mx a b body els,ts,hT,hf,h0=>by
  obtain ⟨t,ht⟩:∃ t:St,t=.mk op name mx a b body els:=⟨_,rfl⟩
  have hbody:t.body=body:=by rw [ht];rfl
  have hels:t.els=els:=by rw [ht];rfl
  rw [← ht] at h0 hf ⊢;rw [nmS_eq] at hf ⊢;rw [stT_eq] at h0 ⊢;unfold stStep at h0 ⊢;by_cases he:(opsT ts.visible t).2.2≠0
  · rw [if_pos he] at h0;exact (he h0).elim
  rw [if_neg he] at h0 ⊢;by_cases h1:t.op=1
  ·
   rw [if_pos h1] at h0 ⊢;rw [if_pos h1];refine ⟨fun k hk=>?_,fun k hk=>rfl,fun g k v hv=>(qcg _ _ _ _).2 (.inr (g k v hv))⟩;simp only [TS.decl];rw [qd0,if_neg (fun e=>hk (by simp [e]))]
  rw [if_neg h1] at h0 ⊢;rw [if_neg h1];by_cases h2:t.op=2
  ·
   rw [if_pos h2];rcases qcu ts.visible t.name with _ | ty
   · exact .refl _ _ _
   · exact .refl _ _ _
  rw [if_neg h2] at h0 ⊢;by_cases h3:t.op=3
  · rw [if_pos h3];exact .refl _ _ _
  rw [if_neg h3] at h0 ⊢;by_cases h4:t.op=4
  · rw [if_pos h4];exact .refl _ _ _
  rw [if_neg h4] at h0 ⊢;by_cases h7:t.op=7
  · rw [if_pos h7];exact .refl _ _ _
  rw [if_neg h7] at h0 ⊢;by_cases h5:t.op=5
  ·
   rw [if_pos h5] at h0 ⊢;by_cases h6:(opsT ts.visible t).1≠3
   · rw [if_pos h6] at h0;simp at h0
   rw [if_neg h6] at h0 ⊢;by_cases h8:(blkOf t.body (seqT t.body) ts).1≠0
   · rw [if_pos h8] at h0;exact (h8 h0).elim
   rw [if_neg h8] at h0 ⊢;rw [if_neg (by omega),List.nil_append] at hf ⊢;have z1:=blk_zero (by simpa using h8);have z2:=blk_zero h0;have g1:=TGo.blk (l:=t.body) (f:=seqT t.body) (fun g=>go_seq t.body ts hT hf.left g) (by simpa using h8);have hf2:=hf.right g1;have s1:=SV.blk hT hf.left (go_seq t.body ts hT hf.left z1) (by rw [hbody] at hf z1 ⊢;exact sv_seq body ts hT hf.left z1) z1;have s2:=SV.blk g1.ok hf2 (go_seq t.els _ g1.ok hf2 z2) (by rw [hels] at hf2 z2 ⊢;exact sv_seq els _ g1.ok hf2 z2) z2;refine ⟨fun k hk=>(s2.vis k hk).trans (s1.vis k hk),fun k hk=>?_,fun g=>s2.lk (s1.lk g)⟩;simp only [List.mem_append,not_or] at hk;exact (s2.lp k hk.2).trans (s1.lp k hk.1)
  rw [if_neg h5] at h0 ⊢;by_cases h6:t.op=6
  ·
   rw [if_pos h6] at h0 ⊢;by_cases h8:(opsT ts.visible t).1≠1∨(opsT ts.visible t).2.1≠1
   · rw [if_pos h8] at h0;simp at h0
   rw [if_neg h8] at h0 ⊢;rw [if_pos (.inr h6)] at hf ⊢;have g0:=TGo.set hT (hf.2 t.name (by simp)) 1 (qda ts.loops t.name true);have hfb:=(hf.right g0).left;have z1:=blk_zero h0;have g1:=go_seq t.body _ g0.ok hfb z1;have s1:=SV.blk g0.ok hfb g1 (by rw [hbody] at hfb z1 ⊢;exact sv_seq body _ g0.ok hfb z1) z1;have g1':=TGo.blk (l:=t.body) (f:=seqT t.body) (fun g=>go_seq t.body _ g0.ok hfb g) h0;refine ⟨fun k _=>?_,fun k hk=>?_,fun g=>?_⟩
   ·
    simp only;rw [kGet_del _ _ _ g1'.ok.nod];by_cases e:t.name=k
    ·
     rw [if_pos e];have hn:=hf.2 t.name (by simp);rcases hx:qcu ts.visible k with _ | v
     · rfl
     ·
      have:=hT.sub _ _ hx;rw [← e,qdb.2 hn] at this;cases this
    ·
     rw [if_neg e,s1.vis k (by simp)];simp only;rw [qd0,if_neg e]
   ·
    simp only [List.mem_append,List.mem_singleton,not_or] at hk;simp only;rw [s1.lp k hk.2.1];simp only;rw [qd0,if_neg (fun e=>hk.1 e.symm)]
   ·
    simp only;refine s1.lk fun k v hv=>?_;simp only at hv ⊢;rw [qd0] at hv;split at hv
    · rename_i e;exact (qcg _ _ _ _).2 (.inl e.symm)
    · exact (qcg _ _ _ _).2 (.inr (g k v hv))
  ·
   rw [if_neg h6];exact .refl _ _ _
theorem sv_seq:∀ (l:List St) (ts:TS),TOk ts→fresh (nmL l) ts→(seqT l ts).1=0→SV (nmL l) (letsL l) ts (seqT l ts).2
 | [],ts,hT,hf,h0=>by rw [seqT];exact .refl _ _ _
 | t::l,ts,hT,hf,h0=>by
  rw [seqT] at h0 ⊢;rw [nmL] at hf ⊢;by_cases he:(stT t ts).1≠0
  · rw [if_pos he] at h0;exact (he h0).elim
  rw [if_neg he] at h0 ⊢;have he:(stT t ts).1=0:=by simpa using he
  have s1:=sv_st t ts hT hf.left he;have g1:=go_st t ts hT hf.left he;have s2:=sv_seq l _ g1.ok (hf.right g1) h0;refine ⟨fun k hk=>?_,fun k hk=>?_,fun g=>s2.lk (s1.lk g)⟩
  ·
   rw [letsL] at hk;by_cases h1:t.op=1
   ·
    rw [if_pos h1] at hk s1;simp only [List.mem_cons,not_or] at hk;exact (s2.vis k hk.2).trans (s1.vis k (by simpa using hk.1))
   ·
    rw [if_neg h1] at hk s1;exact (s2.vis k hk).trans (s1.vis k (by simp))
  ·
   simp only [List.mem_append,not_or] at hk;exact (s2.lp k hk.2).trans (s1.lp k hk.1)
end
theorem TR.blk {l:List St} {ts:TS} {vars:Vis} {loops:List qac} (h:TR ts vars loops) (hT:TOk ts) (hf:fresh (nmL l) ts) (h0:(seqT l ts).1=0):TR (blkOf l (seqT l) ts).2 vars loops:=by
 have g:=go_seq l ts hT hf h0;have s:=SV.blk hT hf g (sv_seq l ts hT hf h0) h0;have e:(blkOf l (seqT l) ts).2.all=(seqT l ts).2.all:=by unfold blkOf;rw [if_neg (by simp [h0])]
 have sub:∀ k,k∈qcd ts.all→k∈qcd (blkOf l (seqT l) ts).2.all:=fun k hk=>by
  rw [e];rcases hx:qcu ts.all k with _ | v
  · exact (qdb.1 hx hk).elim
  ·
   have:=g.mono _ _ hx;exact Classical.byContradiction fun hn=>by rw [qdb.2 hn] at this;cases this
 refine ⟨fun k=>(s.vis k (by simp)).trans (h.vis k),fun k hk=>?_,fun k hk=>sub k (h.lin k hk),s.lk h.lk,h.ty⟩;by_cases hn:k∈nmL l
 ·
  have h1:=hf.2 k hn;exact (h.keys hT h1 hk).elim
 · rw [s.lp k hn];exact h.lp k hk
abbrev visP (l:List Param):Vis:=l.map fun p=>(p.name,p.ty)
theorem TR.params:∀ (ps pre:List Param) (ts:TS),TOk ts→fresh (ps.map (·.name)) ts→TR ts (visP pre) []→(∀ x∈ps,1≤x.ty∧x.ty≤3)→TR (declP ps ts) (visP (pre++ps)) []
 | [],pre,ts,_,_,h,_=>by rw [List.append_nil];exact h
 | x::l,pre,ts,hT,hf,h,ht=>by
  have hd:declP (x::l) ts=declP l (ts.decl x.name x.ty):=rfl;rw [hd];have hf':fresh ([x.name]++l.map (·.name)) ts:=hf
  have hn:=hf'.2 x.name (by simp);have g:=TGo.set hT hn x.ty ts.loops;have hx:=ht x (by simp);have:=TR.params l (pre++[x]) (ts.decl x.name x.ty) g.ok (hf'.right g) (by
   have e:visP (pre++[x])=visP pre++[(x.name,x.ty)]:=by simp [visP]
   rw [e];exact h.decl hT hn hx.1 hx.2) (fun y hy=>ht y (by simp [hy]))
  rw [List.append_assoc] at this;exact this
end Go.Cw

namespace Go.Cw
open Go Go.Abs
def n1 (t:St):N4:=⟨1,gE t.a+gE t.b,if t.op=3∨t.op=4 then 1 else 0,if t.op=7 then 1 else 0⟩
end Go.Cw

namespace Go.Cw
open Go Go.Abs
end Go.Cw

namespace Go.Cw
open Go Go.Abs
structure RInv (r p:Nat) (m:RM):Prop where
 vr:∀ q∈m.vars,rngV q.v
 wr:∀ q∈m.own,rngV q.v
 s0:0≤m.steps
 s1:m.steps≤16384
 rd:((m.reads.length+r:Nat):Int)≤8192 * m.steps+8192
 pt:((m.puts.length+p:Nat):Int)≤m.steps
 ow:((m.own.length+p:Nat):Int)≤m.steps
 va:((m.vars.length+p:Nat):Int)≤m.steps+34359738368
 ot:m.out.length≤16
theorem RInv.mono {r p r' p':Nat} {m:RM} (h:RInv r p m) (h1:r'≤r) (h2:p'≤p):RInv r' p' m :=
 ⟨h.vr,h.wr,h.s0,h.s1,by have:=h.rd;omega,by have:=h.pt;omega,by have:=h.ow;omega,by have:=h.va;omega,h.ot⟩
theorem setR_len (l:List Pr) (p:Pr):(setR l p).length≤l.length+1:=by
 have:=posP_le p.key l;unfold setR restP;split<;>simp<;>omega
theorem setR_mem {l:List Pr} {p q:Pr} (h:q∈setR l p):q=p∨q∈l:=by
 unfold setR at h;simp only [List.mem_append,List.mem_cons] at h;rcases h with h | h | h
 · exact .inr (List.mem_of_mem_take h)
 · exact .inl h
 · exact .inr (List.mem_of_mem_drop h)
section
variable {C:Cfg} (hC:rngC C)
include hC
end
theorem RInv.store {C:Cfg} {r p:Nat} {m:RM} (h:RInv r (p+1) m) {v:V} (hv:rngV v) (k:qac) (h0:(storeR C m k v).st=0):RInv r p (storeR C m k v):=by
 unfold storeR at h0 ⊢;split at h0
 · simp [RM.ab] at h0
 rename_i h1;rw [if_neg h1];split at h0
 · simp [RM.rst] at h0
 rename_i h2;rw [if_neg h2];refine ⟨h.vr,fun q hq=>?_,h.s0,h.s1,h.rd,?_,?_,by have:=h.va;simp only;omega,h.ot⟩
 ·
  rcases setR_mem hq with rfl | hq
  · exact hv
  · exact h.wr q hq
 ·
  have:=withS_len m.puts k;have:=h.pt;simp only;omega
 ·
  have:=setR_len m.own ⟨k,v⟩;have:=h.ow;simp only;omega
theorem RInv.emit {r p:Nat} {m:RM} (h:RInv r p m) {v:V} (h0:(emitR m v).st=0):RInv r p (emitR m v):=by
 unfold emitR at h0 ⊢;split at h0
 · simp [RM.ab] at h0
 rename_i h1;rw [if_neg h1];refine ⟨h.vr,h.wr,h.s0,h.s1,h.rd,h.pt,h.ow,h.va,?_⟩;simp only [List.length_append,List.length_singleton];omega
section
variable {C:Cfg} (hC:rngC C) (hf:∀ n,i64 n→qbm (C.fmt n)=true)
include hC hf
end
end Go.Cw

namespace Go.Cw
open Go Go.Abs
def evOk (e:Ex) (st:List Pr) (ft:Foot):Prop:=¬ (chkE e 1≠0∨qa3 st=false∨qbi ft.all ft.reads ft.writes=false)
instance (e:Ex) (st:List Pr) (ft:Foot):Decidable (evOk e st ft):=inferInstanceAs (Decidable (¬ _))
structure EvIn (fmt:Int→qac) (e:Ex) (vs st:List Pr):Prop where
 fmt:∀ n,i64 n→qbm (fmt n)=true
 ex:rngX e
 vars:∀ q∈vs,rngV q.v
 st:∀ q∈st,rngV q.v
 len:vs.length≤34359738368
end Go.Cw
