/- Part 23 of a proof: CwS, CwT, CwU, CwV -/
import Derived.Test.YtdbpbpmikpdjcaaGreatDoorQ22
set_option linter.all false

namespace Go.Cw
open Go Go.Abs
abbrev qcq (l:List Pr):List qad:=l.map (·.key)
theorem ascP_iff:∀ (l:List Pr) (prev:Option qad),ascP prev l=true↔(∀ p∈l,keyOk p.key=true)∧ascS (qcq l)∧∀ k,prev=some k→∀ p∈l,sLt k p.key=true
 | [],prev=>by simp [ascP]
 | p::l,prev=>by
  simp only [ascP,Bool.and_eq_true,ascP_iff l,List.mem_cons,qcq,List.map_cons,List.pairwise_cons,List.mem_map]
  constructor
  ·
   rintro ⟨⟨h1,h2⟩,h3,h4,h5⟩
   refine ⟨?_,⟨?_,h4⟩,?_⟩
   ·
    rintro q (rfl | hq)
    · exact h1
    · exact h3 q hq
   ·
    rintro x ⟨q,hq,rfl⟩
    exact h5 _ rfl q hq
   ·
    rintro k rfl q (rfl | hq)
    · exact h2
    · exact sLt_trans h2 (h5 _ rfl q hq)
  ·
   rintro ⟨h1,⟨h2,h3⟩,h4⟩
   refine ⟨⟨h1 p (.inl rfl),?_⟩,fun q hq=>h1 q (.inr hq),h3,?_⟩
   ·
    cases prev with
    | none=>rfl
    | some k=>exact h4 k rfl p (.inl rfl)
   ·
    rintro k hk q hq
    cases hk
    exact h2 _ ⟨q,hq,rfl⟩
theorem qd4 (l:List Pr):qcz l=true↔(∀ p∈l,okW p.v)∧(∀ p∈l,keyOk p.key=true)∧ascS (qcq l):=by
 simp only [qcz,valsOk,Bool.and_eq_true,allL_iff,ascP_iff,okW]
 constructor
 · rintro ⟨h1,h2,h3,_⟩;exact ⟨h1,h2,h3⟩
 · rintro ⟨h1,h2,h3⟩;exact ⟨h1,h2,h3,fun k hk=>by cases hk⟩
theorem anyL_iff {α:Type} {p:α→Bool}:∀ {l:List α},anyL p l=true↔∃ x,x∈l∧p x=true
 | []=>by simp [anyL]
 | x::l=>by simp [anyL,anyL_iff (l:=l)]
theorem anyL_false {α:Type} {p:α→Bool} {l:List α}:anyL p l=false↔∀ x,x∈l→p x=false:=by
 cases h:anyL p l with
 | true =>
  obtain ⟨x,hx,hp⟩:=anyL_iff.1 h
  simp only [Bool.true_eq_false,false_iff]
  intro k
  rw [k x hx] at hp
  cases hp
 | false =>
  simp only [true_iff]
  intro x hx
  cases hp:p x with
  | false=>rfl
  | true=>rw [anyL_iff.2 ⟨x,hx,hp⟩] at h;cases h
theorem stateOk_iff (l:List Pr):qbq l=true↔(∀ p∈l,okW p.v∧p.v.k≠0)∧(∀ p∈l,keyOk p.key=true)∧ascS (qcq l):=by
 rw [← stateOkR_eq,stateOkR,Bool.and_eq_true,qd4,Bool.not_eq_true',anyL_false]
 simp only [decide_eq_false_iff_not]
 constructor
 · rintro ⟨h0,h1,h2,h3⟩;exact ⟨fun p hp=>⟨h1 p hp,h0 p hp⟩,h2,h3⟩
 · rintro ⟨h1,h2,h3⟩;exact ⟨fun p hp=>(h1 p hp).2,fun p hp=>(h1 p hp).1,h2,h3⟩
theorem hasP_iff {l:List Pr} {k:qad}:hasP l k=true↔k∈qcq l:=by
 simp [hasP,anyL_iff,qcq]
theorem hasP_false {l:List Pr} {k:qad}:hasP l k=false↔∀ p∈l,p.key≠k:=by
 simp [hasP,anyL_false]
theorem hasK_iff {l:List qad} {k:qad}:hasK l k=true↔k∈l:=by
 simp [hasK,anyL_iff]
theorem okW_zero {v:V} (h:okW v) (hk:v.k=0):v=V.nil:=by
 obtain ⟨k,n,s⟩:=v
 unfold okW valOk at h
 simp only at hk
 subst hk
 simp at h
 rw [h.1,h.2]
 rfl
theorem getP_out {l:List Pr} {k:qad} (h:∀ p∈l,p.key≠k):getP l k=V.nil:=by
 induction l with
 | nil=>rfl
 | cons p l ih =>
  rw [getP,if_neg (h p (by simp)),ih fun q hq=>h q (by simp [hq])]
theorem getP_in {l:List Pr} (ha:ascS (qcq l)) {p:Pr} (hp:p∈l):getP l p.key=p.v:=by
 induction l with
 | nil=>cases hp
 | cons q l ih =>
  obtain ⟨h1,h2⟩:=List.pairwise_cons.1 ha
  rw [getP]
  rcases List.mem_cons.1 hp with rfl | hp
  · rw [if_pos rfl]
  ·
   have:=h1 p.key (List.mem_map_of_mem hp)
   rw [if_neg (sLt_ne this),ih h2 hp]
theorem getP_mem {l:List Pr} {k:qad} (h:getP l k≠V.nil):(⟨k,getP l k⟩:Pr)∈l:=by
 induction l with
 | nil=>exact (h rfl).elim
 | cons p l ih =>
  rw [getP] at h ⊢
  split
  ·
   rename_i hk
   subst hk
   simp
  ·
   rename_i hk
   rw [if_neg hk] at h
   simp [ih h]
theorem posP_eq (k:qad) (l:List Pr):posP k l=posS k (qcq l):=by
 induction l with
 | nil=>rfl
 | cons p l ih =>
  simp only [posP,qcq,List.map_cons,posS]
  rw [ih]
theorem withP_mem {l:List Pr} {p q:Pr}:q∈withP l p↔q=p∨q∈l:=by
 unfold withP
 have e:=List.take_append_drop (posP p.key l) l
 rw [List.mem_append,List.mem_cons]
 constructor
 ·
  rintro (h | h | h)
  · exact .inr (List.mem_of_mem_take h)
  · exact .inl h
  · exact .inr (List.mem_of_mem_drop h)
 ·
  rintro (h | h)
  · exact .inr (.inl h)
  ·
   rw [← e,List.mem_append] at h
   rcases h with h | h
   · exact .inl h
   · exact .inr (.inr h)
theorem withP_keys {l:List Pr} {p:Pr} (h:∀ q∈l,q.key≠p.key):qcq (withP l p)=qec (qcq l) p.key:=by
 unfold withP qec
 rw [posP_eq]
 rw [if_neg]
 · simp [qcq,List.map_append,List.map_take,List.map_drop]
 ·
  intro hx
  have:=List.mem_of_getElem? hx
  obtain ⟨q,hq,he⟩:=List.mem_map.1 this
  exact h q hq he
theorem withP_asc {l:List Pr} {p:Pr} (ha:ascS (qcq l)) (h:∀ q∈l,q.key≠p.key):ascS (qcq (withP l p)):=by
 rw [withP_keys h]
 exact withS_asc ha _
theorem addP_spec:∀ (w out:List Pr),ascS (qcq out)→ascS (qcq w)→(∀ q∈out,∀ p∈w,q.key≠p.key)→ascS (qcq (addP out w))∧∀ q,q∈addP out w↔q∈out∨(q∈w∧q.v.k≠0)
 | [],out,ha,_,_=>⟨ha,fun q=>by simp [addP]⟩
 | p::w,out,ha,hw,hd=>by
  obtain ⟨h1,h2⟩:=List.pairwise_cons.1 hw
  rw [addP]
  split
  ·
   rename_i hk
   obtain ⟨g1,g2⟩:=addP_spec w out ha h2 fun q hq r hr=>hd q hq r (by simp [hr])
   refine ⟨g1,fun q=>?_⟩
   rw [g2,List.mem_cons]
   constructor
   ·
    rintro (h | ⟨h,h'⟩)
    · exact .inl h
    · exact .inr ⟨.inr h,h'⟩
   ·
    rintro (h | ⟨rfl | h,h'⟩)
    · exact .inl h
    · exact (h' hk).elim
    · exact .inr ⟨h,h'⟩
  ·
   rename_i hk
   have hne:∀ q∈out,q.key≠p.key:=fun q hq=>hd q hq p (by simp)
   obtain ⟨g1,g2⟩:=addP_spec w (withP out p) (withP_asc ha hne) h2 fun q hq r hr=>by
    rcases withP_mem.1 hq with rfl | hq
    · exact sLt_ne (h1 r.key (List.mem_map_of_mem hr))
    · exact hd q hq r (by simp [hr])
   refine ⟨g1,fun q=>?_⟩
   rw [g2,List.mem_cons,withP_mem]
   constructor
   ·
    rintro ((rfl | h) | ⟨h,h'⟩)
    · exact .inr ⟨.inl rfl,hk⟩
    · exact .inl h
    · exact .inr ⟨.inr h,h'⟩
   ·
    rintro (h | ⟨rfl | h,h'⟩)
    · exact .inl (.inr h)
    · exact .inl (.inl rfl)
    · exact .inr ⟨h,h'⟩
theorem keepP_spec (w:List Pr):∀ (l:List Pr),(keepP w l).Sublist l∧∀ q,q∈keepP w l↔q∈l∧hasP w q.key=false
 | []=>⟨List.Sublist.refl _,fun q=>by simp [keepP]⟩
 | p::l=>by
  obtain ⟨h1,h2⟩:=keepP_spec w l
  rw [keepP]
  split
  ·
   rename_i hp
   refine ⟨h1.cons _,fun q=>?_⟩
   rw [h2,List.mem_cons]
   constructor
   · rintro ⟨a,b⟩;exact ⟨.inr a,b⟩
   ·
    rintro ⟨rfl | a,b⟩
    · rw [hp] at b;cases b
    · exact ⟨a,b⟩
  ·
   rename_i hp
   refine ⟨h1.cons_cons _,fun q=>?_⟩
   rw [List.mem_cons,h2,List.mem_cons]
   constructor
   ·
    rintro (rfl | ⟨a,b⟩)
    · exact ⟨.inl rfl,by simpa using hp⟩
    · exact ⟨.inr a,b⟩
   ·
    rintro ⟨rfl | a,b⟩
    · exact .inl rfl
    · exact .inr ⟨a,b⟩
theorem applyP_spec {l w:List Pr} (hl:ascS (qcq l)) (hw:ascS (qcq w)):ascS (qcq (applyP l w))∧∀ q,q∈applyP l w↔(q∈l∧hasP w q.key=false)∨(q∈w∧q.v.k≠0):=by
 obtain ⟨h1,h2⟩:=keepP_spec w l
 obtain ⟨g1,g2⟩:=addP_spec w (keepP w l) (hl.sublist (h1.map _)) hw fun q hq p hp=>by
  have:=((h2 q).1 hq).2
  exact fun e=>hasP_false.1 this p hp e.symm
 refine ⟨g1,fun q=>?_⟩
 rw [applyP,g2,h2]
theorem applyP_ok {l w:List Pr} (hl:qbq l=true) (hw:qcz w=true):qbq (applyP l w)=true:=by
 obtain ⟨l1,l2,l3⟩:=(stateOk_iff l).1 hl
 obtain ⟨w1,w2,w3⟩:=(qd4 w).1 hw
 obtain ⟨a1,a2⟩:=applyP_spec l3 w3
 refine (stateOk_iff _).2 ⟨fun p hp=>?_,fun p hp=>?_,a1⟩
 ·
  rcases (a2 p).1 hp with ⟨h,_⟩ | ⟨h,hk⟩
  · exact l1 p h
  · exact ⟨w1 p h,hk⟩
 ·
  rcases (a2 p).1 hp with ⟨h,_⟩ | ⟨h,hk⟩
  · exact l2 p h
  · exact w2 p h
theorem getP_apply {l w:List Pr} (hl:ascS (qcq l)) (hw:ascS (qcq w)) (hv:∀ p∈w,okW p.v) (k:qad):getP (applyP l w) k=if hasP w k then getP w k else getP l k:=by
 obtain ⟨a1,a2⟩:=applyP_spec hl hw
 split
 ·
  rename_i hk
  obtain ⟨p,hp,rfl⟩:=List.mem_map.1 (hasP_iff.1 hk)
  rw [getP_in hw hp]
  by_cases h0:p.v.k=0
  ·
   rw [okW_zero (hv p hp) h0]
   refine getP_out fun q hq he=>?_
   rcases (a2 q).1 hq with ⟨_,h⟩ | ⟨h,h'⟩
   · rw [he,hk] at h;cases h
   ·
    have e1:=getP_in hw h
    have e2:=getP_in hw hp
    rw [he,e2] at e1
    exact h' (by rw [← e1,h0])
  · exact getP_in a1 ((a2 p).2 (.inr ⟨hp,h0⟩))
 ·
  rename_i hk
  have hk:hasP w k=false:=by simpa using hk
  by_cases hg:getP l k=V.nil
  ·
   rw [hg]
   by_cases hn:getP (applyP l w) k=V.nil
   · exact hn
   ·
    have hm:=getP_mem hn
    rcases (a2 _).1 hm with ⟨h,_⟩ | ⟨h,_⟩
    ·
     have:=getP_in hl h
     simp only at this
     rw [hg] at this
     exact this.symm
    · exact (hasP_false.1 hk _ h rfl).elim
  ·
   have hm:=getP_mem hg
   have:=getP_in a1 ((a2 _).2 (.inl ⟨hm,hk⟩))
   simpa using this
end Go.Cw

namespace Go.Cw
open Go Go.Abs
structure RunIn (fmt:Int→qad) (p:Proc) (args:List V) (st:List Pr):Prop where
 fmt:∀ n,i64 n→qa9 (fmt n)=true
 body:∀ t∈p.body,rngS t
 args:∀ v∈args,qdi v
 st:∀ q∈st,qdi q.v
abbrev cfgR (fmt:Int→qad) (st:List Pr) (ft:Foot):Cfg:=⟨st,ft.all,ft.reads,ft.writes,fmt⟩
abbrev ms0 (p:Proc) (args:List V):MS:=⟨qdp p.params args [],[],[],[],[],0⟩
def runOk (p:Proc) (args:List V) (st:List Pr) (ft:Foot):Prop:=¬ (qbj p≠0∨qcf p args≠0∨qbq st=false∨qd7 ft.all ft.reads ft.writes=false)
theorem runS_no {fmt:Int→qad} {p:Proc} {args:List V} {st:List Pr} {ft:Foot} (h:¬ runOk p args st ft):runS fmt p args st ft=wrongE:=by
 unfold runS
 exact if_pos (Decidable.not_not.1 h)
theorem runS_yes {fmt:Int→qad} {p:Proc} {args:List V} {st:List Pr} {ft:Foot} (h:runOk p args st ft):runS fmt p args st ft=doneS (qd2 (cfgR fmt st ft) p.body (ms0 p args)):=by
 unfold runS
 exact if_neg h
theorem qdr (p:Proc) (args:List V) (st:List Pr) (ft:Foot):runOk p args st ft↔qbj p=0∧qcf p args=0∧qbq st=true∧qd7 ft.all ft.reads ft.writes=true:=by
 unfold runOk
 simp only [not_or,Decidable.not_not,Bool.not_eq_false]
theorem setArgs_mem:∀ {ps:List Param} {vs:List V} {m:List (qad×V)} {q:qad×V},q∈qdp ps vs m→q∈m∨q.2∈vs
 | [],vs,m,q,h=>by simp [qdp] at h;exact .inl h
 | x::l,[],m,q,h=>by simp [qdp] at h;exact .inl h
 | x::l,v::r,m,q,h=>by
  rw [qdp] at h
  rcases setArgs_mem h with h | h
  ·
   rcases kSet_mem h with rfl | h
   · exact .inr (by simp)
   · exact .inl h
  · exact .inr (by simp [h])
theorem done_reads (x:Except Stop Unit×MS):(doneS x).reads=x.2.reads:=by rcases x with ⟨z | u,m⟩<;>rfl
theorem done_puts (x:Except Stop Unit×MS):(doneS x).puts=x.2.puts:=by rcases x with ⟨z | u,m⟩<;>rfl
theorem done_steps (x:Except Stop Unit×MS):(doneS x).steps=x.2.steps:=by rcases x with ⟨z | u,m⟩<;>rfl
theorem cost_valid {p:Proc} (h:qbj p=0):qcj p=0:=by
 unfold qbj at h
 split at h
 · contradiction
 ·
  rename_i hd
  simp only [Decidable.not_not] at hd
  unfold detErr at hd
  split at hd
  · contradiction
  ·
   rename_i ht
   simp only [Decidable.not_not] at ht
   unfold qc0 at ht
   split at ht
   · contradiction
   ·
    rename_i hv
    simpa using hv
theorem cost_okL {p:Proc} (h:qbj p=0):okL p.body 1:=validP_ok (cost_valid h)
theorem cost_goS {p:Proc} (h:qbj p=0) (hr:∀ t∈p.body,rngS t):∀ t∈p.body,goS t:=fun t ht=>goS_of t 1 (cost_okL h t ht) (hr t ht)
theorem cost_lim {p:Proc} (h:qbj p=0):(cntB p.body).st≤16384∧(cntB p.body).ge≤64∧(cntB p.body).pu≤64∧(cntB p.body).em≤16:=by
 unfold qbj at h
 split at h
 · contradiction
 split at h
 · contradiction
 split at h
 · contradiction
 · omega
theorem cost_det {p:Proc} (h:qbj p=0):detErr p=0:=by
 unfold qbj at h
 split at h
 · contradiction
 ·
  rename_i hd
  simpa using hd
theorem cost_nL {p:Proc} (h:qbj p=0):((nL p.body).st:Int)=(cntB p.body).st∧((nL p.body).ge:Int)=(cntB p.body).ge∧((nL p.body).pu:Int)=(cntB p.body).pu∧((nL p.body).em:Int)=(cntB p.body).em:=by
 have h1:=cost_lim h
 have h2:=cntB_sat (cost_okL h)
 have hm:∀ n:Nat,mn n 16385≤16384→(n:Int)=mn n 16385:=fun n hn=>by unfold mn at hn ⊢;split<;>split at hn<;>omega
 rw [h2] at h1 ⊢
 simp only [sat] at h1 ⊢
 exact ⟨hm _ h1.1,hm _ (by omega),hm _ (by omega),hm _ (by omega)⟩
theorem args_ok {ps:List Param} {vs:List V} (h:argsOk ps vs=true) (hl:vs.length=ps.length):∀ v∈vs,okX v:=by
 induction ps generalizing vs with
 | nil=>intro v hv;rw [List.eq_nil_of_length_eq_zero hl] at hv;cases hv
 | cons x l ih =>
  cases vs with
  | nil=>simp
  | cons v r =>
   simp only [argsOk,Bool.and_eq_true] at h
   intro w hw
   rcases List.mem_cons.1 hw with rfl | hw
   ·
    have:=h.1
    unfold argOk at this
    unfold okX varOk valOk
    simp only [Bool.or_eq_true,Bool.and_eq_true,decide_eq_true_eq] at this
    rcases this with ⟨⟨h1,h2⟩,_⟩ | ⟨⟨⟨h1,h2⟩,h3⟩,_⟩
    · simp [h1,h2]
    · simp [h1,h2,h3]
   · exact ih h.2 (by simpa using hl) w hw
theorem argsErr_ok {p:Proc} {args:List V} (h:qcf p args=0):args.length=p.params.length∧∀ v∈args,okX v:=by
 unfold qcf at h
 split at h
 · contradiction
 ·
  rename_i h1
  split at h
  ·
   rename_i h2
   have hl:args.length=p.params.length:=by
    by_cases hl:args.length=p.params.length
    · exact hl
    · exact (h1 (.inr hl)).elim
   exact ⟨hl,args_ok h2 hl⟩
  · contradiction
section
variable {fmt:Int→qad} {p:Proc} {args:List V} {st:List Pr} {ft:Foot}
theorem inv0 (hI:RunIn fmt p args st):Inv 0 0 (ms0 p args):=by
 refine ⟨⟨fun q hq=>?_,by simp⟩,by simp,by simp,by simp,by simp,by simp,by simp⟩
 rcases setArgs_mem hq with h | h
 · cases h
 · exact hI.args _ h
theorem vM0 (h:qcf p args=0):vM (ms0 p args):=by
 refine ⟨fun q hq=>?_,by simp⟩
 rcases setArgs_mem hq with h1 | h1
 · cases h1
 · exact (argsErr_ok h).2 _ h1
theorem vC_of (hI:RunIn fmt p args st) (hs:qbq st=true):vC (cfgR fmt st ft):=⟨fun q hq=>(((stateOk_iff st).1 hs).1 q hq).1,hI.fmt⟩
theorem fit_run (x:List St):Fit (cfgR fmt st ft) (ms0 p args) (qd2 (cfgR fmt st ft) x (ms0 p args)).2:=keep_blk (fit_keeps _) x _
theorem stop_run {x:List St} {t:MS} {z:Stop} (h:qd2 (cfgR fmt st ft) x (ms0 p args)=(.error z,t)):Stops (cfgR fmt st ft) z:=stop_blk x _ _ _ h
theorem run_all (h:ft.all=true):(runS fmt p args st ft).status≠3:=by
 by_cases hr:runOk p args st ft
 ·
  rw [runS_yes hr]
  rcases hx:qd2 (cfgR fmt st ft) p.body (ms0 p args) with ⟨z | u,m⟩
  ·
   rcases stop_run hx with ⟨c,rfl⟩ | ⟨k,rfl,ha,_⟩
   · simp [doneS,ab]
   · simp only [h] at ha;cases ha
  · simp [doneS]
 · rw [runS_no hr];decide
theorem run_puts {k:qad} (hk:k∈(runS fmt p args st ft).puts):keyOk k=true∧(ft.all=true∨hasK ft.writes k=true):=by
 by_cases hr:runOk p args st ft
 ·
  rw [runS_yes hr,done_puts] at hk
  rcases (fit_run p.body).pt k hk with h | h
  · cases h
  · exact h
 · rw [runS_no hr] at hk;cases hk
theorem run_asc:ascS (runS fmt p args st ft).reads∧ascS (runS fmt p args st ft).puts:=by
 by_cases hr:runOk p args st ft
 ·
  rw [runS_yes hr,done_reads,done_puts]
  exact ⟨(fit_run p.body).ar (by simp),(fit_run p.body).ap (by simp)⟩
 · rw [runS_no hr];simp [wrongE]
theorem run_wrong (h:qbj p≠0):runS fmt p args st ft=wrongE:=runS_no fun h'=>h ((qdr _ _ _ _).1 h').1
theorem run_bounds (hI:RunIn fmt p args st) (h:qbj p=0):(runS fmt p args st ft).steps≤(cntB p.body).st∧((runS fmt p args st ft).reads.length:Int)≤(cntB p.body).ge∧((runS fmt p args st ft).puts.length:Int)≤(cntB p.body).pu∧((runS fmt p args st ft).out.length:Int)≤(cntB p.body).em:=by
 have hn:=cost_nL h
 by_cases hr:runOk p args st ft
 ·
  rw [runS_yes hr,done_reads,done_puts,done_steps]
  have hd:=dl_blk (C:=cfgR fmt st ft) (fun q hq=>hI.st q hq) p.body 1 (ms0 p args) (cost_okL h) (cost_goS h hI.body) (inv0 hI)
  obtain ⟨d1,d2,d3,d4⟩:=hd
  simp only [List.length_nil,Nat.zero_add] at d1 d2 d3 d4
  refine ⟨by omega,by omega,by omega,?_⟩
  rcases hx:qd2 (cfgR fmt st ft) p.body (ms0 p args) with ⟨z | u,m⟩
  · simp only [doneS,List.length_nil];omega
  · rw [hx] at d4;simp only at d4;simp only [doneS];omega
 ·
  rw [runS_no hr]
  simp only [wrongE,List.length_nil]
  omega
theorem run_else (h:(runS fmt p args st ft).status≠1):(runS fmt p args st ft).writes=[]∧(runS fmt p args st ft).out=[]∧((runS fmt p args st ft).status=2∨(runS fmt p args st ft).status=3∧(runS fmt p args st ft).code=0):=by
 by_cases hr:runOk p args st ft
 ·
  rw [runS_yes hr] at h ⊢
  rcases hx:qd2 (cfgR fmt st ft) p.body (ms0 p args) with ⟨z | u,m⟩
  ·
   refine ⟨rfl,rfl,?_⟩
   rcases stop_run hx with ⟨c,rfl⟩ | ⟨k,rfl,_⟩
   · exact .inl rfl
   · exact .inr ⟨rfl,rfl⟩
  · rw [hx] at h;exact (h rfl).elim
 · rw [runS_no hr];exact ⟨rfl,rfl,.inl rfl⟩
theorem run_commit (hI:RunIn fmt p args st) (h:(runS fmt p args st ft).status=1):(runS fmt p args st ft).writes.map (·.key)=(runS fmt p args st ft).puts∧(runS fmt p args st ft).code=0∧qcz (runS fmt p args st ft).writes=true:=by
 by_cases hr:runOk p args st ft
 ·
  have hr':=(qdr _ _ _ _).1 hr
  have hasc:=(run_asc (fmt:=fmt) (p:=p) (args:=args) (st:=st) (ft:=ft)).2
  have hput:=fun k hk=>(run_puts (fmt:=fmt) (p:=p) (args:=args) (st:=st) (ft:=ft) (k:=k) hk).1
  rw [runS_yes hr] at h hasc hput ⊢
  rcases hx:qd2 (cfgR fmt st ft) p.body (ms0 p args) with ⟨z | u,m⟩
  ·
   rw [hx] at h
   rcases stop_run hx with ⟨c,rfl⟩ | ⟨k,rfl,_⟩<;>simp [doneS,ab,rst] at h
  ·
   rw [hx] at hasc hput
   have hvm:=vM_blk (vC_of hI hr'.2.2.1) (fun q hq=>hI.st q hq) p.body 1 (ms0 p args) u m (cost_okL hr'.1) (cost_goS hr'.1 hI.body) (inv0 hI) (vM0 hr'.2.1) hx
   have hkeys:(doneS (.ok u,m)).writes.map (·.key)=(doneS (.ok u,m)).puts:=by simp [doneS,Function.comp_def]
   refine ⟨hkeys,rfl,(qd4 _).2 ⟨fun q hq=>?_,fun q hq=>?_,?_⟩⟩
   ·
    obtain ⟨k,_,rfl⟩:=List.mem_map.1 hq
    simp only
    rcases hg:qby m.own k with _ | w
    · exact okW_nil
    · exact hvm.2 _ (kGet_mem hg)
   · exact hput _ (by rw [← hkeys];exact List.mem_map_of_mem hq)
   ·
    show ascS ((doneS (.ok u,m)).writes.map (·.key))
    rw [hkeys];exact hasc
 · rw [runS_no hr] at h;simp [wrongE] at h
end
end Go.Cw

namespace Go.Cw
open Go Go.Abs
structure Txn where
 id:Int
 proc:qad
 args:List V
 ft:Foot
 att:Int
def Txn.c (t:Txn):List AV:=[I t.id,S t.proc,.slice (t.args.map V.c),Bo t.ft.all,.slice (t.ft.reads.map qbg),.slice (t.ft.writes.map qbg),I t.att]
def findN (procs:List Proc) (name:qad):Option Proc:=procs.find? fun p=>decide (p.name=name)
def findP (procs:List Proc) (t:Txn):Option Proc :=
 match findN procs t.proc with
 | none=>none
 | some p=>if qcf p t.args=0 then some p else none
section
variable (fmt:Int→qad)
def oneS (procs:List Proc) (s:List Pr) (t:Txn):List Pr×Eff :=
 match findP procs t with
 | none=>(s,wrongE)
 | some p=>if (runS fmt p t.args s t.ft).status=1 then (applyP s (runS fmt p t.args s t.ft).writes,runS fmt p t.args s t.ft) else (s,runS fmt p t.args s t.ft)
def qbb (procs:List Proc) (s:List Pr) (l:List Txn):List Pr×List Eff :=
 l.foldl (fun y t=>((oneS fmt procs y.1 t).1,y.2++[(oneS fmt procs y.1 t).2])) (s,[])
end
def wroteS (e:Eff) (k:qad):Bool:=decide (e.status=1)&&hasP e.writes k
def applyE (s:List Pr) (e:Eff):List Pr:=if e.status=1∧qbq s=true∧qcz e.writes=true then applyP s e.writes else s
section
variable (fmt:Int→qad)
end
structure BatchIn (fmt:Int→qad) (procs:List Proc) (l:List Txn):Prop where
 fmt:∀ n,i64 n→qa9 (fmt n)=true
 body:∀ p∈procs,∀ t∈p.body,rngS t
 args:∀ t∈l,∀ v∈t.args,qdi v
abbrev rngL (s:List Pr):Prop:=∀ q∈s,qdi q.v
section
variable {fmt:Int→qad}
theorem findP_mem {procs:List Proc} {t:Txn} {p:Proc} (h:findP procs t=some p):p∈procs∧qcf p t.args=0:=by
 unfold findP at h
 split at h
 · cases h
 ·
  rename_i q hq
  split at h
  ·
   cases h
   exact ⟨List.mem_of_find?_eq_some hq,by assumption⟩
  · cases h
theorem run_commit_ok {p:Proc} {args:List V} {s:List Pr} {ft:Foot} (h:(runS fmt p args s ft).status=1):qbq s=true:=by
 by_cases hr:runOk p args s ft
 · exact ((qdr _ _ _ _).1 hr).2.2.1
 · rw [runS_no hr] at h;simp [wrongE] at h
theorem run_rngW {p:Proc} {args:List V} {s:List Pr} {ft:Foot} (hI:RunIn fmt p args s):rngL (runS fmt p args s ft).writes:=by
 by_cases hr:runOk p args s ft
 ·
  have hr':=(qdr _ _ _ _).1 hr
  rw [runS_yes hr]
  rcases hx:qd2 (cfgR fmt s ft) p.body (ms0 p args) with ⟨z | u,m⟩
  · intro q hq;simp [doneS] at hq
  ·
   have hi:=blkI_ok (C:=cfgR fmt s ft) (fun q hq=>hI.st q hq) p.body _ _ _ (cost_goS hr'.1 hI.body) (inv0 hI) hx
   intro q hq
   simp only [doneS,List.mem_map] at hq
   obtain ⟨k,_,rfl⟩:=hq
   simp only
   rcases hg:qby m.own k with _ | w
   · exact rng_nil
   · exact hi.rng.2 _ (kGet_mem hg)
 · rw [runS_no hr];intro q hq;cases hq
theorem run_lenW {p:Proc} {args:List V} {s:List Pr} {ft:Foot} (hI:RunIn fmt p args s):(runS fmt p args s ft).writes.length≤64:=by
 by_cases h1:(runS fmt p args s ft).status=1
 ·
  have h:=(run_commit hI h1).1
  have hl:(runS fmt p args s ft).writes.length=(runS fmt p args s ft).puts.length:=by rw [← h,List.length_map]
  by_cases hc:qbj p=0
  ·
   have h1:=run_bounds (ft:=ft) hI hc
   have h2:=cost_lim hc
   omega
  · rw [run_wrong hc];simp [wrongE]
 · rw [(run_else h1).1];simp
theorem rngL_apply {l w:List Pr} (hl:rngL l) (hw:rngL w) (al:qbq l=true) (aw:qcz w=true):rngL (applyP l w):=fun q hq=>by
 rcases ((applyP_spec ((stateOk_iff l).1 al).2.2 ((qd4 w).1 aw).2.2).2 q).1 hq with h | h
 · exact hl q h.1
 · exact hw q h.1
theorem addP_len:∀ (w out:List Pr),(addP out w).length≤out.length+w.length
 | [],out=>by simp [addP]
 | p::w,out=>by
  rw [addP]
  split
  · have:=addP_len w out;simp only [List.length_cons];omega
  ·
   have:=addP_len w (withP out p)
   have h:(withP out p).length=out.length+1:=by
    unfold withP
    simp only [List.length_append,List.length_take,List.length_cons,List.length_drop]
    omega
   simp only [List.length_cons];omega
theorem applyP_len (l w:List Pr):(applyP l w).length≤l.length+w.length:=by
 have h1:=addP_len w (keepP w l)
 have h2:=(keepP_spec w l).1.length_le
 unfold applyP
 omega
structure OneOk (s:List Pr) (x:List Pr×Eff):Prop where
 rng:rngL x.1
 len:x.1.length≤s.length+64
 ok:qbq s=true→qbq x.1=true
 no:qbq s=false→x.1=s
 get:∀ k,wroteS x.2 k=false→getP x.1 k=getP s k
 upd:x.1=applyE s x.2
 rds:x.2.reads.length≤64
 wrs:x.2.writes.length≤64
 wrng:rngL x.2.writes
 com:x.2.status=1→qbq s=true∧qcz x.2.writes=true
theorem one_ok {procs:List Proc} {s:List Pr} {t:Txn} (hf:∀ n,i64 n→qa9 (fmt n)=true) (hb:∀ p∈procs,∀ t∈p.body,rngS t) (ha:∀ v∈t.args,qdi v) (hs:rngL s):OneOk s (oneS fmt procs s t):=by
 unfold oneS
 split
 · exact { rng:=hs,len:=by simp,ok:=id,no:=fun _=>rfl,get:=fun _ _=>rfl,upd:=by simp [applyE,wrongE],rds:=by simp [wrongE],wrs:=by simp [wrongE],wrng:=by intro q hq;simp [wrongE] at hq,com:=fun h=>by simp [wrongE] at h }
 ·
  rename_i p hp
  have hI:RunIn fmt p t.args s:=⟨hf,hb p (findP_mem hp).1,ha,hs⟩
  have hl:(runS fmt p t.args s t.ft).reads.length≤64:=by
   by_cases hc:qbj p=0
   ·
    have h1:=run_bounds (ft:=t.ft) hI hc
    have h2:=cost_lim hc
    omega
   · rw [run_wrong hc];simp [wrongE]
  have hw:=run_lenW (ft:=t.ft) hI
  have hwr:=run_rngW (ft:=t.ft) hI
  split
  ·
   rename_i h1
   have hs1:=run_commit_ok h1
   have hw1:=(run_commit hI h1).2.2
   refine ⟨rngL_apply hs hwr hs1 hw1,?_,fun _=>applyP_ok hs1 hw1,fun h=>?_,fun k hk=>?_,?_,hl,hw,hwr,fun _=>⟨hs1,hw1⟩⟩
   · have:=applyP_len s (runS fmt p t.args s t.ft).writes;simp only;omega
   · rw [hs1] at h;cases h
   ·
    obtain ⟨w1,w2,w3⟩:=(qd4 _).1 hw1
    simp only at hk ⊢
    rw [getP_apply ((stateOk_iff s).1 hs1).2.2 w3 w1]
    simp only [wroteS,h1,decide_true,Bool.true_and] at hk
    simp [hk]
   · simp only [applyE];rw [if_pos ⟨h1,hs1,hw1⟩]
  ·
   rename_i h1
   refine ⟨hs,by simp,id,fun _=>rfl,fun _ _=>rfl,?_,hl,hw,hwr,fun h=>(h1 h).elim⟩
   simp only [applyE];rw [if_neg (fun h=>h1 h.1)]
theorem round_snoc (procs:List Proc) (s:List Pr) (l:List Txn) (t:Txn):qbb fmt procs s (l++[t])=((oneS fmt procs (qbb fmt procs s l).1 t).1,(qbb fmt procs s l).2++[(oneS fmt procs (qbb fmt procs s l).1 t).2]):=by
 unfold qbb
 rw [List.foldl_append]
 rfl
structure RoundOk (s:List Pr) (n:Nat) (x:List Pr×List Eff):Prop where
 rng:rngL x.1
 len:x.1.length≤s.length+64 * n
 cnt:x.2.length=n
 ok:qbq s=true→qbq x.1=true
 no:qbq s=false→x.1=s
 get:∀ k,(∀ e∈x.2,wroteS e k=false)→getP x.1 k=getP s k
 rds:∀ e∈x.2,e.reads.length≤64
 wrs:∀ e∈x.2,e.writes.length≤64
 wrng:∀ e∈x.2,rngL e.writes
theorem BatchIn.init {procs:List Proc} {l:List Txn} {t:Txn} (h:BatchIn fmt procs (l++[t])):BatchIn fmt procs l:=⟨h.fmt,h.body,fun x hx=>h.args x (by simp [hx])⟩
theorem BatchIn.take {procs:List Proc} {l:List Txn} (h:BatchIn fmt procs l) (n:Nat):BatchIn fmt procs (l.take n):=⟨h.fmt,h.body,fun x hx=>h.args x (List.mem_of_mem_take hx)⟩
theorem snoc_ind {α:Type} {P:List α→Prop} (h0:P []) (h1:∀ l x,P l→P (l++[x])) (l:List α):P l:=by
 have:∀ n (l:List α),l.length=n→P l:=by
  intro n
  induction n with
  | zero=>intro l hl;rw [List.eq_nil_of_length_eq_zero hl];exact h0
  | succ n ih =>
   intro l hl
   have hne:l≠[]:=by rintro rfl;cases hl
   have e:l=l.dropLast++[l.getLast hne]:=(List.dropLast_concat_getLast hne).symm
   rw [e]
   exact h1 _ _ (ih _ (by simp [hl]))
 exact this _ l rfl
theorem round_ok {procs:List Proc} {s:List Pr} (hs:rngL s):∀ (l:List Txn),BatchIn fmt procs l→RoundOk s l.length (qbb fmt procs s l):=by
 refine snoc_ind (fun _=>⟨hs,by simp [qbb],rfl,id,fun _=>rfl,fun _ _=>rfl,by simp [qbb],by simp [qbb],by simp [qbb]⟩) fun l t ih hB=>?_
 have hR:=ih hB.init
 have hO:=one_ok (fmt:=fmt) (procs:=procs) (t:=t) hB.fmt hB.body (hB.args t (by simp)) hR.rng
 rw [round_snoc]
 refine ⟨hO.rng,?_,by simp [hR.cnt],fun h=>hO.ok (hR.ok h),fun h=>?_,fun k hk=>?_,fun e he=>?_,fun e he=>?_,fun e he=>?_⟩
 · have:=hR.len;have:=hO.len;simp only [List.length_append,List.length_singleton];omega
 ·
  have h1:=hR.no h
  have:=hO.no (by rw [h1];exact h)
  exact this.trans h1
 ·
  simp only [List.mem_append,List.mem_singleton] at hk
  rw [hO.get k (hk _ (.inr rfl)),hR.get k (fun e he=>hk e (.inl he))]
 ·
  simp only [List.mem_append,List.mem_singleton] at he
  rcases he with he | rfl
  · exact hR.rds e he
  · exact hO.rds
 ·
  simp only [List.mem_append,List.mem_singleton] at he
  rcases he with he | rfl
  · exact hR.wrs e he
  · exact hO.wrs
 ·
  simp only [List.mem_append,List.mem_singleton] at he
  rcases he with he | rfl
  · exact hR.wrng e he
  · exact hO.wrng
end
end Go.Cw

namespace Go.Cw
open Go Go.Abs
def putW (q:Pr) (l:List Pr):List Pr:=if q.v.k=0 then l else q::l
def mergeP:List Pr→List Pr→List Pr
 | [],[]=>[]
 | [],q::w=>putW q (mergeP [] w)
 | p::l,[]=>p::mergeP l []
 | p::l,q::w=>if sLt p.key q.key=true then p::mergeP l (q::w) else if sLt q.key p.key=true then putW q (mergeP (p::l) w) else putW q (mergeP l w)
termination_by l w=>l.length+w.length
decreasing_by all_goals simp only [List.length_cons,List.length_nil];omega
theorem asc_cons {p:Pr} {l:List Pr}:ascS (qcq (p::l))↔(∀ q∈l,sLt p.key q.key=true)∧ascS (qcq l):=by
 simp [ascS,qcq,List.pairwise_cons]
theorem asc_ext:∀ {l m:List Pr},ascS (qcq l)→ascS (qcq m)→(∀ q,q∈l↔q∈m)→l=m
 | [],[],_,_,_=>rfl
 | [],q::m,_,_,h=>by have:=(h q).2 (by simp);cases this
 | p::l,[],_,_,h=>by have:=(h p).1 (by simp);cases this
 | p::l,q::m,hl,hm,h=>by
  rw [asc_cons] at hl hm
  have e:p=q:=by
   rcases List.mem_cons.1 ((h p).1 (by simp)) with e | e
   · exact e
   ·
    rcases List.mem_cons.1 ((h q).2 (by simp)) with e' | e'
    · exact e'.symm
    ·
     have h1:=hm.1 _ e
     have h2:=hl.1 _ e'
     rw [sLt_asymm h1] at h2;cases h2
  subst e
  have:l=m:=asc_ext hl.2 hm.2 fun q=>by
   constructor
   ·
    intro hq
    rcases List.mem_cons.1 ((h q).1 (by simp [hq])) with e | e
    · subst e;have:=hl.1 _ hq;rw [qcw] at this;cases this
    · exact e
   ·
    intro hq
    rcases List.mem_cons.1 ((h q).2 (by simp [hq])) with e | e
    · subst e;have:=hm.1 _ hq;rw [qcw] at this;cases this
    · exact e
  rw [this]
theorem putW_mem {q x:Pr} {l:List Pr}:x∈putW q l↔(x=q∧x.v.k≠0)∨x∈l:=by
 unfold putW
 split
 ·
  rename_i h
  constructor
  · exact .inr
  ·
   rintro (⟨rfl,h'⟩ | h')
   · exact (h' h).elim
   · exact h'
 ·
  rename_i h
  rw [List.mem_cons]
  constructor
  ·
   rintro (rfl | h')
   · exact .inl ⟨rfl,h⟩
   · exact .inr h'
  ·
   rintro (⟨rfl,_⟩ | h')
   · exact .inl rfl
   · exact .inr h'
theorem putW_asc {q:Pr} {l:List Pr} (h:∀ x∈l,sLt q.key x.key=true) (hl:ascS (qcq l)):ascS (qcq (putW q l)):=by
 unfold putW
 split
 · exact hl
 · exact asc_cons.2 ⟨h,hl⟩
theorem hasP_cons (q:Pr) (w:List Pr) (k:qad):hasP (q::w) k=(decide (q.key=k)||hasP w k):=by simp [hasP,anyL]
theorem mergeP_mem (l w:List Pr):(∀ x∈mergeP l w,x∈l∨x∈w):=by
 induction l,w using mergeP.induct with
 | case1=>intro x hx;simp [mergeP] at hx
 | case2 q w ih =>
  intro x hx
  rw [mergeP,putW_mem] at hx
  rcases hx with ⟨rfl,_⟩ | hx
  · simp
  · rcases ih x hx with h | h<;>simp [h]
 | case3 p l ih =>
  intro x hx
  rw [mergeP,List.mem_cons] at hx
  rcases hx with rfl | hx
  · simp
  · rcases ih x hx with h | h<;>simp [h]
 | case4 p l q w h1 ih =>
  intro x hx
  rw [mergeP,if_pos h1,List.mem_cons] at hx
  rcases hx with rfl | hx
  · simp
  ·
   rcases ih x hx with h | h
   · simp [h]
   · exact .inr h
 | case5 p l q w h1 h2 ih =>
  intro x hx
  rw [mergeP,if_neg h1,if_pos h2,putW_mem] at hx
  rcases hx with ⟨rfl,_⟩ | hx
  · simp
  ·
   rcases ih x hx with h | h
   · exact .inl h
   · simp [h]
 | case6 p l q w h1 h2 ih =>
  intro x hx
  rw [mergeP,if_neg h1,if_neg h2,putW_mem] at hx
  rcases hx with ⟨rfl,_⟩ | hx
  · simp
  · rcases ih x hx with h | h<;>simp [h]
theorem sLt_eq {a b:qad} (h1:¬ sLt a b=true) (h2:¬ sLt b a=true):a=b:=by
 have:=sLt_tri a b
 simp only [Bool.not_eq_true] at h1 h2
 rw [h1,h2] at this
 simpa using this
theorem hasP_lt {q:qad} {w:List Pr} (h:∀ x∈w,sLt q x.key=true):hasP w q=false:=hasP_false.2 fun p hp e=>by
 have:=h p hp
 rw [e,qcw] at this;cases this
theorem mergeP_spec (l w:List Pr):ascS (qcq l)→ascS (qcq w)→ascS (qcq (mergeP l w))∧∀ q,q∈mergeP l w↔(q∈l∧hasP w q.key=false)∨(q∈w∧q.v.k≠0):=by
 induction l,w using mergeP.induct with
 | case1=>intro _ _;simp [mergeP,qcq]
 | case2 q w ih =>
  intro hl hw
  rw [asc_cons] at hw
  obtain ⟨i1,i2⟩:=ih hl hw.2
  rw [mergeP]
  refine ⟨putW_asc (fun x hx=>?_) i1,fun x=>?_⟩
  ·
   rcases mergeP_mem _ _ x hx with h | h
   · cases h
   · exact hw.1 x h
  ·
   rw [putW_mem,i2]
   simp only [List.not_mem_nil,false_and,false_or,List.mem_cons]
   grind
 | case3 p l ih =>
  intro hl hw
  rw [asc_cons] at hl
  obtain ⟨i1,i2⟩:=ih hl.2 hw
  rw [mergeP]
  refine ⟨asc_cons.2 ⟨fun x hx=>?_,i1⟩,fun x=>?_⟩
  ·
   rcases mergeP_mem _ _ x hx with h | h
   · exact hl.1 x h
   · cases h
  ·
   rw [List.mem_cons,i2]
   simp [hasP,anyL]
 | case4 p l q w h1 ih =>
  intro hl hw
  have hw0:=hw
  rw [asc_cons] at hl hw
  obtain ⟨i1,i2⟩:=ih hl.2 hw0
  have hp:∀ x∈q::w,sLt p.key x.key=true:=fun x hx=>by
   rcases List.mem_cons.1 hx with rfl | hx
   · exact h1
   · exact sLt_trans h1 (hw.1 x hx)
  rw [mergeP,if_pos h1]
  refine ⟨asc_cons.2 ⟨fun x hx=>?_,i1⟩,fun x=>?_⟩
  ·
   rcases mergeP_mem _ _ x hx with h | h
   · exact hl.1 x h
   · exact hp x h
  ·
   rw [List.mem_cons,i2,List.mem_cons (a:=x) (b:=p)]
   have:=hasP_lt hp
   constructor
   ·
    rintro (rfl | ⟨h,h'⟩ | h)
    · exact .inl ⟨.inl rfl,this⟩
    · exact .inl ⟨.inr h,h'⟩
    · exact .inr h
   ·
    rintro (⟨e | h,h'⟩ | h)
    · exact .inl e
    · exact .inr (.inl ⟨h,h'⟩)
    · exact .inr (.inr h)
 | case5 p l q w h1 h2 ih =>
  intro hl hw
  have hl0:=hl
  rw [asc_cons] at hl hw
  obtain ⟨i1,i2⟩:=ih hl0 hw.2
  have hq:∀ x∈p::l,sLt q.key x.key=true:=fun x hx=>by
   rcases List.mem_cons.1 hx with rfl | hx
   · exact h2
   · exact sLt_trans h2 (hl.1 x hx)
  rw [mergeP,if_neg h1,if_pos h2]
  refine ⟨putW_asc (fun x hx=>?_) i1,fun x=>?_⟩
  ·
   rcases mergeP_mem _ _ x hx with h | h
   · exact hq x h
   · exact hw.1 x h
  ·
   rw [putW_mem,i2,hasP_cons,List.mem_cons (a:=x) (b:=q)]
   constructor
   ·
    rintro (⟨rfl,h⟩ | ⟨h,h'⟩ | ⟨h,h'⟩)
    · exact .inr ⟨.inl rfl,h⟩
    ·
     refine .inl ⟨h,?_⟩
     have:¬ q.key=x.key:=fun e=>by have:=hq x h;rw [e,qcw] at this;cases this
     simp [this,h']
    · exact .inr ⟨.inr h,h'⟩
   ·
    rintro (⟨h,h'⟩ | ⟨rfl | h,h'⟩)
    ·
     simp only [Bool.or_eq_false_iff] at h'
     exact .inr (.inl ⟨h,h'.2⟩)
    · exact .inl ⟨rfl,h'⟩
    · exact .inr (.inr ⟨h,h'⟩)
 | case6 p l q w h1 h2 ih =>
  intro hl hw
  rw [asc_cons] at hl hw
  obtain ⟨i1,i2⟩:=ih hl.2 hw.2
  have e:=sLt_eq h1 h2
  have hq:∀ x∈l,sLt q.key x.key=true:=fun x hx=>by rw [← e];exact hl.1 x hx
  rw [mergeP,if_neg h1,if_neg h2]
  refine ⟨putW_asc (fun x hx=>?_) i1,fun x=>?_⟩
  ·
   rcases mergeP_mem _ _ x hx with h | h
   · exact hq x h
   · exact hw.1 x h
  ·
   rw [putW_mem,i2,hasP_cons,List.mem_cons,List.mem_cons]
   constructor
   ·
    rintro (⟨rfl,h⟩ | ⟨h,h'⟩ | ⟨h,h'⟩)
    · exact .inr ⟨.inl rfl,h⟩
    ·
     refine .inl ⟨.inr h,?_⟩
     have:¬ q.key=x.key:=fun e=>by have:=hq x h;rw [e,qcw] at this;cases this
     simp [this,h']
    · exact .inr ⟨.inr h,h'⟩
   ·
    rintro (⟨h | h,h'⟩ | ⟨rfl | h,h'⟩)
    ·
     subst h
     simp only [Bool.or_eq_false_iff,decide_eq_false_iff_not] at h'
     exact (h'.1 e.symm).elim
    ·
     simp only [Bool.or_eq_false_iff] at h'
     exact .inr (.inl ⟨h,h'.2⟩)
    · exact .inl ⟨rfl,h'⟩
    · exact .inr (.inr ⟨h,h'⟩)
theorem mergeP_eq {l w:List Pr} (hl:ascS (qcq l)) (hw:ascS (qcq w)):mergeP l w=applyP l w:=by
 obtain ⟨a1,a2⟩:=mergeP_spec l w hl hw
 obtain ⟨b1,b2⟩:=applyP_spec hl hw
 exact asc_ext a1 b1 fun q=>by rw [a2,b2]
end Go.Cw
