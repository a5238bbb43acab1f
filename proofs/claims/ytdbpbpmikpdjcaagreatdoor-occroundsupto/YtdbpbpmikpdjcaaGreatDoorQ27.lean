/- Part 27 of a proof: CwVa -/
import Derived.Test.YtdbpbpmikpdjcaaGreatDoorQ26
set_option linter.all false

namespace Go.Cw
open Go Go.Abs
abbrev Ex.z:Ex:=.mk 0 0 em []
abbrev St.z:St:=.mk 0 em 0 Ex.z Ex.z [] []
structure Vt where
 isS:Bool
 t:St
 d:Nat
 e:Ex
 root:Bool
def Vt.c (v:Vt):List AV:=[Bo v.isS,I v.t.op,S v.t.name,I v.t.max,I v.t.a.op,I v.t.a.n,S v.t.a.s,.slice (v.t.a.args.map Ex.c),I v.t.b.op,I v.t.b.n,S v.t.b.s,.slice (v.t.b.args.map Ex.c),.slice (v.t.body.map St.c),.slice (v.t.els.map St.c),I v.d,I v.e.op,I v.e.n,S v.e.s,.slice (v.e.args.map Ex.c),Bo v.root]
def Vt.ofS (t:St) (d:Nat):Vt:=⟨true,t,d,Ex.z,false⟩
def Vt.ofE (e:Ex) (r:Bool):Vt:=⟨false,St.z,0,e,r⟩
mutual
def wkE:Ex→Bool→List Vt→List Vt
 | .mk op n s args,r,out=>if 400<out.length then out else wkEL args (out++[Vt.ofE (.mk op n s args) r])
def wkEL:List Ex→List Vt→List Vt
 | [],out=>out
 | e::l,out=>if out.length≤400 then wkEL l (wkE e false out) else out
end
theorem wkE_eq (e:Ex) (r:Bool) (out:List Vt):wkE e r out=if 400<out.length then out else wkEL e.args (out++[Vt.ofE e r]):=by
 cases e;rw [wkE];rfl
def wkF (e:Ex) (out:List Vt):List Vt:=if absE e=true then out else wkE e true out
mutual
def wkS:St→Nat→List Vt→List Vt
 | .mk _ _ _ a b body els,d,out=>wkB els (d+1) (wkB body (d+1) (wkF b (wkF a out)))
def wkB:List St→Nat→List Vt→List Vt
 | [],_,out=>out
 | t::l,d,out=>if out.length≤400 then wkB l d (wkS t d (out++[Vt.ofS t d])) else out
end
theorem wkS_eq (t:St) (d:Nat) (out:List Vt):wkS t d out=wkB t.els (d+1) (wkB t.body (d+1) (wkF t.b (wkF t.a out))):=by
 cases t;rw [wkS];rfl
abbrev wkP (p:Proc):List Vt:=wkB p.body 1 []
section
variable {σ:Type} (fS:σ→St→Nat→σ) (fR:σ→Ex→σ)
def qdf (s:σ) (l:List Vt):σ:=l.foldl (fun s v=>if v.isS then fS s v.t v.d else if v.root then fR s v.e else s) s
theorem foldV_snoc (s:σ) (l:List Vt) (v:Vt):qdf fS fR s (l++[v])=if v.isS then fS (qdf fS fR s l) v.t v.d else if v.root then fR (qdf fS fR s l) v.e else qdf fS fR s l:=by
 simp [qdf,List.foldl_append]
theorem foldV_S (s:σ) (l:List Vt) (t:St) (d:Nat):qdf fS fR s (l++[Vt.ofS t d])=fS (qdf fS fR s l) t d:=by rw [foldV_snoc];rfl
theorem foldV_E (s:σ) (l:List Vt) (e:Ex):qdf fS fR s (l++[Vt.ofE e false])=qdf fS fR s l:=by rw [foldV_snoc];rfl
theorem foldV_R (s:σ) (l:List Vt) (e:Ex):qdf fS fR s (l++[Vt.ofE e true])=fR (qdf fS fR s l) e:=by rw [foldV_snoc];rfl
mutual
theorem wkE_fold:∀ (e:Ex) (out:List Vt) (s:σ),out.length≤401→(wkE e false out).length≤401∧exW e (401 - out.length)=401 - (wkE e false out).length∧qdf fS fR s (wkE e false out)=qdf fS fR s out
 | .mk op n x args,out,s,h=>by
  rw [wkE,exW]
  by_cases h1:400<out.length
  ·
   rw [if_pos h1,if_pos (by omega)]
   exact ⟨h,by omega,rfl⟩
  ·
   rw [if_neg h1,if_neg (by omega)]
   have:=wkEL_fold args (out++[Vt.ofE (.mk op n x args) false]) s (by simp;omega)
   refine ⟨this.1,?_,this.2.2.trans (foldV_E _ _ _ _ _)⟩
   rw [← this.2.1]
   congr 1
   simp
   omega
theorem wkEL_fold:∀ (l:List Ex) (out:List Vt) (s:σ),out.length≤401→(wkEL l out).length≤401∧exWL l (401 - out.length)=401 - (wkEL l out).length∧qdf fS fR s (wkEL l out)=qdf fS fR s out
 | [],out,s,h=>by rw [wkEL,exWL];exact ⟨h,rfl,rfl⟩
 | e::l,out,s,h=>by
  rw [wkEL,exWL]
  by_cases h1:out.length≤400
  ·
   rw [if_pos h1]
   have h2:=wkE_fold e out s h
   have h3:=wkEL_fold l (wkE e false out) s h2.1
   rw [h2.2.1]
   exact ⟨h3.1,h3.2.1,h3.2.2.trans h2.2.2⟩
  ·
   rw [if_neg h1]
   have e0:401 - out.length=0:=by omega
   rw [e0]
   have:=exW_le e 0
   have h4:exW e 0=0:=by omega
   have:=exWL_le l 0
   rw [h4]
   exact ⟨h,by omega,rfl⟩
end
theorem wkF_fold (e:Ex) (out:List Vt) (s:σ) (h:out.length≤401):(wkF e out).length≤401∧qbt fR e (401 - out.length,qdf fS fR s out)=(401 - (wkF e out).length,qdf fS fR s (wkF e out)):=by
 unfold wkF qbt
 by_cases ha:absE e=true
 · rw [if_pos ha,if_pos (.inr ha)];exact ⟨h,rfl⟩
 ·
  rw [if_neg ha]
  by_cases h1:400<out.length
  ·
   rw [if_pos (.inl (by simp only;omega)),wkE_eq,if_pos h1]
   exact ⟨h,rfl⟩
  ·
   have hn:¬ (401 - out.length=0∨absE e=true):=by rintro (g | g);omega;exact ha g
   dsimp only
   rw [if_neg hn,wkE_eq,if_neg h1]
   have:=wkEL_fold fS fR e.args (out++[Vt.ofE e true]) s (by simp;omega)
   refine ⟨this.1,?_⟩
   rw [this.2.2,foldV_R,← this.2.1,exW_eq,if_neg (show ¬ 401 - out.length=0 by omega)]
   congr 2
   simp
   omega
mutual
theorem wkS_fold:∀ (t:St) (d:Nat) (out:List Vt) (s:σ),out.length≤401→(wkS t d out).length≤401∧stW fS fR t d (401 - out.length,qdf fS fR s out)=(401 - (wkS t d out).length,qdf fS fR s (wkS t d out))
 | .mk _ _ _ a b body els,d,out,s,h=>by
  rw [wkS,stW]
  have h1:=wkF_fold fS fR a out s h
  have h2:=wkF_fold fS fR b _ s h1.1
  have h3:=wkB_fold body (d+1) _ s h2.1
  have h4:=wkB_fold els (d+1) _ s h3.1
  rw [h1.2,h2.2,h3.2,h4.2]
  exact ⟨h4.1,rfl⟩
theorem wkB_fold:∀ (l:List St) (d:Nat) (out:List Vt) (s:σ),out.length≤401→(wkB l d out).length≤401∧blkW fS fR l d (401 - out.length,qdf fS fR s out)=(401 - (wkB l d out).length,qdf fS fR s (wkB l d out))
 | [],d,out,s,h=>by rw [wkB,blkW];exact ⟨h,rfl⟩
 | t::l,d,out,s,h=>by
  rw [wkB,blkW]
  by_cases h1:out.length≤400
  ·
   rw [if_pos h1,if_neg (by simp only;omega)]
   have h2:=wkS_fold t d (out++[Vt.ofS t d]) s (by simp;omega)
   have h3:=wkB_fold l d _ s h2.1
   rw [← h3.2,← h2.2,foldV_S]
   refine ⟨h3.1,?_⟩
   simp only [List.length_append,List.length_singleton]
   congr 3
  ·
   rw [if_neg h1,if_pos (by simp only;omega)]
   exact ⟨h,rfl⟩
end
theorem wkP_fold (p:Proc) (s:σ):(wkP p).length≤401∧blkW fS fR p.body 1 (401,s)=(401 - (wkP p).length,qdf fS fR s (wkP p)):=wkB_fold fS fR p.body 1 [] s (by simp)
end
def errV:List Vt→Int
 | []=>0
 | v::l=>if v.isS=true∧qbk v.t v.d≠0 then qbk v.t v.d else errV l
theorem foldV_val:∀ (l:List Vt) (s:Int),qdf valS qbw s l=if s≠0 then s else errV l
 | [],s=>by simp [qdf,errV]
 | v::l,s=>by
  have:qdf valS qbw s (v::l)=qdf valS qbw (if v.isS then valS s v.t v.d else if v.root then qbw s v.e else s) l:=rfl
  rw [this,foldV_val l,errV]
  cases hv:v.isS
  · simp [qbw]
  ·
   simp only [valS,if_true,true_and]
   by_cases h:s=0
   ·
    simp only [h,if_true]
    by_cases h2:qbk v.t v.d=0<;>simp [h2]
   · simp [h]
theorem validP_walk (p:Proc):qcf p=if nameOk p.name=false then 7 else if paramsE p.params≠0 then paramsE p.params else if errV (wkP p)≠0 then errV (wkP p) else if 400<(wkP p).length then 2 else 0:=by
 unfold qcf
 have h:=wkP_fold valS qbw p (0:Int)
 rw [h.2,foldV_val]
 simp only [ne_eq,not_true_eq_false,if_false]
 split
 · rfl
 split
 · rfl
 by_cases h1:errV (wkP p)=0
 ·
  simp only [h1,not_true_eq_false,if_false]
  by_cases h2:400<(wkP p).length
  · rw [if_pos h2,if_pos ⟨trivial,by omega⟩]
  · rw [if_neg h2,if_neg (by omega)]
 · simp only [h1,not_false_eq_true,if_true,false_and,if_false]
def nameV:List Vt→List qad
 | []=>[]
 | v::l=>if v.isS=true∧(v.t.op=1∨v.t.op=6) then v.t.name::nameV l else nameV l
theorem foldV_name:∀ (l:List Vt) (s:List qad),qdf nameS qbw s l=s++nameV l
 | [],s=>by simp [qdf,nameV]
 | v::l,s=>by
  have:qdf nameS qbw s (v::l)=qdf nameS qbw (if v.isS then nameS s v.t v.d else if v.root then qbw s v.e else s) l:=rfl
  rw [this,foldV_name l,nameV]
  cases hv:v.isS
  · simp [qbw]
  ·
   simp only [nameS,if_true,true_and]
   split<;>simp
theorem namesP_walk (p:Proc):qdz p=p.params.map (·.name)++nameV (wkP p):=by
 unfold qdz
 rw [(wkP_fold nameS qbw p _).2,foldV_name]
def rootV:List Vt→List Ex
 | []=>[]
 | v::l=>if v.root then v.e::rootV l else rootV l
def okV (v:Vt):Prop:=v.isS=true→v.root=false
theorem foldV_root:∀ (l:List Vt) (s:List Ex),(∀ v∈l,okV v)→qdf keepS exprR s l=s++rootV l
 | [],s,_=>by simp [qdf,rootV]
 | v::l,s,h=>by
  have:qdf keepS exprR s (v::l)=qdf keepS exprR (if v.isS then keepS s v.t v.d else if v.root then exprR s v.e else s) l:=rfl
  rw [this,foldV_root l _ (fun x hx=>h x (by simp [hx])),rootV]
  cases hv:v.isS
  ·
   simp only [exprR,Bool.false_eq_true,if_false]
   split<;>simp
  ·
   have:=h v (by simp) hv
   simp [keepS,this]
mutual
theorem wkE_okV:∀ (e:Ex) (r:Bool) (out:List Vt),(∀ v∈out,okV v)→∀ v∈wkE e r out,okV v
 | .mk op n x args,r,out,h=>by
  rw [wkE]
  split
  · exact h
  ·
   refine wkEL_okV args _ fun v hv=>?_
   rcases List.mem_append.1 hv with hv | hv
   · exact h v hv
   · rw [List.mem_singleton.1 hv];intro h;cases h
theorem wkEL_okV:∀ (l:List Ex) (out:List Vt),(∀ v∈out,okV v)→∀ v∈wkEL l out,okV v
 | [],out,h=>by rw [wkEL];exact h
 | e::l,out,h=>by
  rw [wkEL]
  split
  · exact wkEL_okV l _ (wkE_okV e false out h)
  · exact h
end
theorem wkF_okV (e:Ex) (out:List Vt) (h:∀ v∈out,okV v):∀ v∈wkF e out,okV v:=by
 unfold wkF
 split
 · exact h
 · exact wkE_okV e true out h
mutual
theorem wkS_okV:∀ (t:St) (d:Nat) (out:List Vt),(∀ v∈out,okV v)→∀ v∈wkS t d out,okV v
 | .mk _ _ _ a b body els,d,out,h=>by
  rw [wkS]
  exact wkB_okV els _ _ (wkB_okV body _ _ (wkF_okV b _ (wkF_okV a _ h)))
theorem wkB_okV:∀ (l:List St) (d:Nat) (out:List Vt),(∀ v∈out,okV v)→∀ v∈wkB l d out,okV v
 | [],d,out,h=>by rw [wkB];exact h
 | t::l,d,out,h=>by
  rw [wkB]
  split
  ·
   refine wkB_okV l d _ (wkS_okV t d _ fun v hv=>?_)
   rcases List.mem_append.1 hv with hv | hv
   · exact h v hv
   · rw [List.mem_singleton.1 hv];intro h;rfl
  · exact h
end
theorem exprsP_walk (p:Proc):qb3 p=rootV (wkP p):=by
 unfold qb3
 rw [(wkP_fold keepS exprR p _).2]
 have:=foldV_root (wkP p) [] (wkB_okV p.body 1 [] (by simp))
 simpa using this
theorem root_ok {t:St} {d:Nat} (h:okS t d) {e:Ex} (he:e=t.a∨e=t.b) (hn:absE e=false):chkE e 1=0:=by
 have h1:=((qcg t d).1 h).1
 have hu:(qa9 t.op).2=true∧qb1 t (qa9 t.op).1=true:=by
  unfold qbk at h1
  by_cases h:(qa9 t.op).2=false∨qb1 t (qa9 t.op).1=false
  · rw [if_pos h] at h1;cases h1
  · simpa using h
 have hs:=hu.2
 unfold qb1 at hs
 rcases he with rfl | rfl
 ·
  refine stmtErr_a h1 ?_
  cases ha:(qa9 t.op).1.a
  · simp [ha,hn] at hs
  · rfl
 ·
  refine stmtErr_b h1 ?_
  cases ha:(qa9 t.op).1.b
  · simp [ha,hn] at hs
  · rfl
theorem firstW_root {e:Ex} {x:Nat×List Ex} {P:Ex→Prop} (h:∀ y∈x.2,P y) (he:absE e=false→P e):∀ y∈(qbt exprR e x).2,P y:=by
 unfold qbt
 split
 · exact h
 ·
  rename_i hn
  simp only [not_or,Bool.not_eq_true] at hn
  intro y hy
  rcases List.mem_append.1 hy with hy | hy
  · exact h y hy
  · rw [List.mem_singleton.1 hy];exact he hn.2
mutual
theorem stW_root:∀ (t:St) (d:Nat) (x:Nat×List Ex),okS t d→(∀ y∈x.2,chkE y 1=0)→∀ y∈(stW keepS exprR t d x).2,chkE y 1=0
 | .mk op nm mx a b body els,d,x,hk,h=>by
  have hk':=(qcg _ _).1 hk
  rw [stW]
  refine blkW_root els _ _ hk'.2.2 (blkW_root body _ _ hk'.2.1 (firstW_root (firstW_root h fun hn=>?_) fun hn=>?_))
  · exact root_ok hk (.inl rfl) hn
  · exact root_ok hk (.inr rfl) hn
theorem blkW_root:∀ (l:List St) (d:Nat) (x:Nat×List Ex),okL l d→(∀ y∈x.2,chkE y 1=0)→∀ y∈(blkW keepS exprR l d x).2,chkE y 1=0
 | [],d,x,hk,h=>by rw [blkW];exact h
 | t::l,d,x,hk,h=>by
  rw [blkW]
  split
  · exact h
  · exact blkW_root l d _ (fun y hy=>hk y (by simp [hy])) (stW_root t d _ (hk t (by simp)) h)
end
theorem exprs_ok {p:Proc} (h:qcf p=0):∀ e∈qb3 p,chkE e 1=0:=blkW_root p.body 1 _ (validP_ok h) (by simp)
end Go.Cw
