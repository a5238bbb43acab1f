/- Part 14 of a proof: CwU, CwV, CwX, CwY, CwI, CwW, CwMv, CwMw, CwOc, CwUb, CwUc, CwUd -/
import Derived.Test.YtdbpbpmikpdjcaaGreatDoorQ10
import Derived.Test.YtdbpbpmikpdjcaaGreatDoorQ11
import Derived.Test.YtdbpbpmikpdjcaaGreatDoorQ13
set_option linter.all false

namespace Go.Cw
open Go Go.Abs
structure Txn where
 id:Int
 proc:qad
 args:List V
 ft:Foot
 att:Int
def Txn.c (t:Txn):List AV:=[I t.id,S t.proc,.slice (t.args.map V.c),Bo t.ft.all,.slice (t.ft.reads.map qbg),.slice (t.ft.writes.map qbg),I t.att]
def findN (procs:List Proc) (name:qad):Option Proc:=procs.find? fun p=>decide (p.name=name)
def findP (procs:List Proc) (t:Txn):Option Proc :=
 match findN procs t.proc with
 | none=>none
 | some p=>if qci p t.args=0 then some p else none
section
variable (fmt:Int→qad)
def oneS (procs:List Proc) (s:List Pr) (t:Txn):List Pr×Eff :=
 match findP procs t with
 | none=>(s,wrongE)
 | some p=>if (runS fmt p t.args s t.ft).status=1 then (qc2 s (runS fmt p t.args s t.ft).writes,runS fmt p t.args s t.ft) else (s,runS fmt p t.args s t.ft)
def qau (procs:List Proc) (s:List Pr) (l:List Txn):List Pr×List Eff :=
 l.foldl (fun y t=>((oneS fmt procs y.1 t).1,y.2++[(oneS fmt procs y.1 t).2])) (s,[])
end
def wroteS (e:Eff) (k:qad):Bool:=decide (e.status=1)&&hasP e.writes k
def applyE (s:List Pr) (e:Eff):List Pr:=if e.status=1∧qbc s=true∧qbx e.writes=true then qc2 s e.writes else s
section
variable (fmt:Int→qad)
end
structure BatchIn (fmt:Int→qad) (procs:List Proc) (l:List Txn):Prop where
 fmt:∀ n,i64 n→qbk (fmt n)=true
 body:∀ p∈procs,∀ t∈p.body,rngS t
 args:∀ t∈l,∀ v∈t.args,rngV v
abbrev rngL (s:List Pr):Prop:=∀ q∈s,rngV q.v
section
variable {fmt:Int→qad}
theorem findP_mem {procs:List Proc} {t:Txn} {p:Proc} (h:findP procs t=some p):p∈procs∧qci p t.args=0:=by
 unfold findP at h
 split at h
 · cases h
 ·
  rename_i q hq
  split at h
  ·
   cases h
   exact ⟨List.mem_of_find?_eq_some hq,by assumption⟩
  · cases h
theorem run_commit_ok {p:Proc} {args:List V} {s:List Pr} {ft:Foot} (h:(runS fmt p args s ft).status=1):qbc s=true:=by
 by_cases hr:runOk p args s ft
 · exact ((qb1 _ _ _ _).1 hr).2.2.1
 · rw [runS_no hr] at h;simp [wrongE] at h
theorem run_rngW {p:Proc} {args:List V} {s:List Pr} {ft:Foot} (hI:RunIn fmt p args s):rngL (runS fmt p args s ft).writes:=by
 by_cases hr:runOk p args s ft
 ·
  have hr':=(qb1 _ _ _ _).1 hr
  rw [qcy hr]
  rcases hx:qcl (cfgR fmt s ft) p.body (ms0 p args) with ⟨z | u,m⟩
  · intro q hq;simp [doneS] at hq
  ·
   have hi:=blkI_ok (C:=cfgR fmt s ft) (fun q hq=>hI.st q hq) p.body _ _ _ (cost_goS hr'.1 hI.body) (inv0 hI) hx
   intro q hq
   simp only [doneS,List.mem_map] at hq
   obtain ⟨k,_,rfl⟩:=hq
   simp only
   rcases hg:kGet m.own k with _ | w
   · exact rng_nil
   · exact hi.rng.2 _ (kGet_mem hg)
 · rw [runS_no hr];intro q hq;cases hq
theorem run_lenW {p:Proc} {args:List V} {s:List Pr} {ft:Foot} (hI:RunIn fmt p args s):(runS fmt p args s ft).writes.length≤64:=by
 by_cases h1:(runS fmt p args s ft).status=1
 ·
  have h:=(run_commit hI h1).1
  have hl:(runS fmt p args s ft).writes.length=(runS fmt p args s ft).puts.length:=by rw [← h,List.length_map]
  by_cases hc:qbs p=0
  ·
   have h1:=run_bounds (ft:=ft) hI hc
   have h2:=cost_lim hc
   omega
  · rw [run_wrong hc];simp [wrongE]
 · rw [(run_else h1).1];simp
theorem rngL_apply {l w:List Pr} (hl:rngL l) (hw:rngL w) (al:qbc l=true) (aw:qbx w=true):rngL (qc2 l w):=fun q hq=>by
 rcases ((applyP_spec ((stateOk_iff l).1 al).2.2 ((qcr w).1 aw).2.2).2 q).1 hq with h | h
 · exact hl q h.1
 · exact hw q h.1
theorem addP_len:∀ (w out:List Pr),(addP out w).length≤out.length+w.length
 | [],out=>by simp [addP]
 | p::w,out=>by
  rw [addP]
  split
  · have:=addP_len w out;simp only [List.length_cons];omega
  ·
   have:=addP_len w (withP out p)
   have h:(withP out p).length=out.length+1:=by
    unfold withP
    simp only [List.length_append,List.length_take,List.length_cons,List.length_drop]
    omega
   simp only [List.length_cons];omega
theorem applyP_len (l w:List Pr):(qc2 l w).length≤l.length+w.length:=by
 have h1:=addP_len w (keepP w l)
 have h2:=(keepP_spec w l).1.length_le
 unfold qc2
 omega
structure OneOk (s:List Pr) (x:List Pr×Eff):Prop where
 rng:rngL x.1
 len:x.1.length≤s.length+64
 ok:qbc s=true→qbc x.1=true
 no:qbc s=false→x.1=s
 get:∀ k,wroteS x.2 k=false→getP x.1 k=getP s k
 upd:x.1=applyE s x.2
 rds:x.2.reads.length≤64
 wrs:x.2.writes.length≤64
 wrng:rngL x.2.writes
 com:x.2.status=1→qbc s=true∧qbx x.2.writes=true
theorem one_ok {procs:List Proc} {s:List Pr} {t:Txn} (hf:∀ n,i64 n→qbk (fmt n)=true) (hb:∀ p∈procs,∀ t∈p.body,rngS t) (ha:∀ v∈t.args,rngV v) (hs:rngL s):OneOk s (oneS fmt procs s t):=by
 unfold oneS
 split
 · exact { rng:=hs,len:=by simp,ok:=id,no:=fun _=>rfl,get:=fun _ _=>rfl,upd:=by simp [applyE,wrongE],rds:=by simp [wrongE],wrs:=by simp [wrongE],wrng:=by intro q hq;simp [wrongE] at hq,com:=fun h=>by simp [wrongE] at h }
 ·
  rename_i p hp
  have hI:RunIn fmt p t.args s:=⟨hf,hb p (findP_mem hp).1,ha,hs⟩
  have hl:(runS fmt p t.args s t.ft).reads.length≤64:=by
   by_cases hc:qbs p=0
   ·
    have h1:=run_bounds (ft:=t.ft) hI hc
    have h2:=cost_lim hc
    omega
   · rw [run_wrong hc];simp [wrongE]
  have hw:=run_lenW (ft:=t.ft) hI
  have hwr:=run_rngW (ft:=t.ft) hI
  split
  ·
   rename_i h1
   have hs1:=run_commit_ok h1
   have hw1:=(run_commit hI h1).2.2
   refine ⟨rngL_apply hs hwr hs1 hw1,?_,fun _=>applyP_ok hs1 hw1,fun h=>?_,fun k hk=>?_,?_,hl,hw,hwr,fun _=>⟨hs1,hw1⟩⟩
   · have:=applyP_len s (runS fmt p t.args s t.ft).writes;simp only;omega
   · rw [hs1] at h;cases h
   ·
    obtain ⟨w1,w2,w3⟩:=(qcr _).1 hw1
    simp only at hk ⊢
    rw [getP_apply ((stateOk_iff s).1 hs1).2.2 w3 w1]
    simp only [wroteS,h1,decide_true,Bool.true_and] at hk
    simp [hk]
   · simp only [applyE];rw [if_pos ⟨h1,hs1,hw1⟩]
  ·
   rename_i h1
   refine ⟨hs,by simp,id,fun _=>rfl,fun _ _=>rfl,?_,hl,hw,hwr,fun h=>(h1 h).elim⟩
   simp only [applyE];rw [if_neg (fun h=>h1 h.1)]
theorem round_snoc (procs:List Proc) (s:List Pr) (l:List Txn) (t:Txn):qau fmt procs s (l++[t])=((oneS fmt procs (qau fmt procs s l).1 t).1,(qau fmt procs s l).2++[(oneS fmt procs (qau fmt procs s l).1 t).2]):=by
 unfold qau
 rw [List.foldl_append]
 rfl
structure RoundOk (s:List Pr) (n:Nat) (x:List Pr×List Eff):Prop where
 rng:rngL x.1
 len:x.1.length≤s.length+64 * n
 cnt:x.2.length=n
 ok:qbc s=true→qbc x.1=true
 no:qbc s=false→x.1=s
 get:∀ k,(∀ e∈x.2,wroteS e k=false)→getP x.1 k=getP s k
 rds:∀ e∈x.2,e.reads.length≤64
 wrs:∀ e∈x.2,e.writes.length≤64
 wrng:∀ e∈x.2,rngL e.writes
theorem BatchIn.init {procs:List Proc} {l:List Txn} {t:Txn} (h:BatchIn fmt procs (l++[t])):BatchIn fmt procs l:=⟨h.fmt,h.body,fun x hx=>h.args x (by simp [hx])⟩
theorem BatchIn.take {procs:List Proc} {l:List Txn} (h:BatchIn fmt procs l) (n:Nat):BatchIn fmt procs (l.take n):=⟨h.fmt,h.body,fun x hx=>h.args x (List.mem_of_mem_take hx)⟩
theorem snoc_ind {α:Type} {P:List α→Prop} (h0:P []) (h1:∀ l x,P l→P (l++[x])) (l:List α):P l:=by
 have:∀ n (l:List α),l.length=n→P l:=by
  intro n
  induction n with
  | zero=>intro l hl;rw [List.eq_nil_of_length_eq_zero hl];exact h0
  | succ n ih =>
   intro l hl
   have hne:l≠[]:=by rintro rfl;cases hl
   have e:l=l.dropLast++[l.getLast hne]:=(List.dropLast_concat_getLast hne).symm
   rw [e]
   exact h1 _ _ (ih _ (by simp [hl]))
 exact this _ l rfl
theorem round_ok {procs:List Proc} {s:List Pr} (hs:rngL s):∀ (l:List Txn),BatchIn fmt procs l→RoundOk s l.length (qau fmt procs s l):=by
 refine snoc_ind (fun _=>⟨hs,by simp [qau],rfl,id,fun _=>rfl,fun _ _=>rfl,by simp [qau],by simp [qau],by simp [qau]⟩) fun l t ih hB=>?_
 have hR:=ih hB.init
 have hO:=one_ok (fmt:=fmt) (procs:=procs) (t:=t) hB.fmt hB.body (hB.args t (by simp)) hR.rng
 rw [round_snoc]
 refine ⟨hO.rng,?_,by simp [hR.cnt],fun h=>hO.ok (hR.ok h),fun h=>?_,fun k hk=>?_,fun e he=>?_,fun e he=>?_,fun e he=>?_⟩
 · have:=hR.len;have:=hO.len;simp only [List.length_append,List.length_singleton];omega
 ·
  have h1:=hR.no h
  have:=hO.no (by rw [h1];exact h)
  exact this.trans h1
 ·
  simp only [List.mem_append,List.mem_singleton] at hk
  rw [hO.get k (hk _ (.inr rfl)),hR.get k (fun e he=>hk e (.inl he))]
 ·
  simp only [List.mem_append,List.mem_singleton] at he
  rcases he with he | rfl
  · exact hR.rds e he
  · exact hO.rds
 ·
  simp only [List.mem_append,List.mem_singleton] at he
  rcases he with he | rfl
  · exact hR.wrs e he
  · exact hO.wrs
 ·
  simp only [List.mem_append,List.mem_singleton] at he
  rcases he with he | rfl
  · exact hR.wrng e he
  · exact hO.wrng
end
end Go.Cw

namespace Go.Cw
open Go Go.Abs
def putW (q:Pr) (l:List Pr):List Pr:=if q.v.k=0 then l else q::l
def mergeP:List Pr→List Pr→List Pr
 | [],[]=>[]
 | [],q::w=>putW q (mergeP [] w)
 | p::l,[]=>p::mergeP l []
 | p::l,q::w=>if sLt p.key q.key=true then p::mergeP l (q::w) else if sLt q.key p.key=true then putW q (mergeP (p::l) w) else putW q (mergeP l w)
termination_by l w=>l.length+w.length
decreasing_by all_goals simp only [List.length_cons,List.length_nil];omega
theorem asc_cons {p:Pr} {l:List Pr}:ascS (qca (p::l))↔(∀ q∈l,sLt p.key q.key=true)∧ascS (qca l):=by
 simp [ascS,qca,List.pairwise_cons]
theorem asc_ext:∀ {l m:List Pr},ascS (qca l)→ascS (qca m)→(∀ q,q∈l↔q∈m)→l=m
 | [],[],_,_,_=>rfl
 | [],q::m,_,_,h=>by have:=(h q).2 (by simp);cases this
 | p::l,[],_,_,h=>by have:=(h p).1 (by simp);cases this
 | p::l,q::m,hl,hm,h=>by
  rw [asc_cons] at hl hm
  have e:p=q:=by
   rcases List.mem_cons.1 ((h p).1 (by simp)) with e | e
   · exact e
   ·
    rcases List.mem_cons.1 ((h q).2 (by simp)) with e' | e'
    · exact e'.symm
    ·
     have h1:=hm.1 _ e
     have h2:=hl.1 _ e'
     rw [sLt_asymm h1] at h2;cases h2
  subst e
  have:l=m:=asc_ext hl.2 hm.2 fun q=>by
   constructor
   ·
    intro hq
    rcases List.mem_cons.1 ((h q).1 (by simp [hq])) with e | e
    · subst e;have:=hl.1 _ hq;rw [qcs] at this;cases this
    · exact e
   ·
    intro hq
    rcases List.mem_cons.1 ((h q).2 (by simp [hq])) with e | e
    · subst e;have:=hm.1 _ hq;rw [qcs] at this;cases this
    · exact e
  rw [this]
theorem putW_mem {q x:Pr} {l:List Pr}:x∈putW q l↔(x=q∧x.v.k≠0)∨x∈l:=by
 unfold putW
 split
 ·
  rename_i h
  constructor
  · exact .inr
  ·
   rintro (⟨rfl,h'⟩ | h')
   · exact (h' h).elim
   · exact h'
 ·
  rename_i h
  rw [List.mem_cons]
  constructor
  ·
   rintro (rfl | h')
   · exact .inl ⟨rfl,h⟩
   · exact .inr h'
  ·
   rintro (⟨rfl,_⟩ | h')
   · exact .inl rfl
   · exact .inr h'
theorem putW_asc {q:Pr} {l:List Pr} (h:∀ x∈l,sLt q.key x.key=true) (hl:ascS (qca l)):ascS (qca (putW q l)):=by
 unfold putW
 split
 · exact hl
 · exact asc_cons.2 ⟨h,hl⟩
theorem hasP_cons (q:Pr) (w:List Pr) (k:qad):hasP (q::w) k=(decide (q.key=k)||hasP w k):=by simp [hasP,anyL]
theorem mergeP_mem (l w:List Pr):(∀ x∈mergeP l w,x∈l∨x∈w):=by
 induction l,w using mergeP.induct with
 | case1=>intro x hx;simp [mergeP] at hx
 | case2 q w ih =>
  intro x hx
  rw [mergeP,putW_mem] at hx
  rcases hx with ⟨rfl,_⟩ | hx
  · simp
  · rcases ih x hx with h | h<;>simp [h]
 | case3 p l ih =>
  intro x hx
  rw [mergeP,List.mem_cons] at hx
  rcases hx with rfl | hx
  · simp
  · rcases ih x hx with h | h<;>simp [h]
 | case4 p l q w h1 ih =>
  intro x hx
  rw [mergeP,if_pos h1,List.mem_cons] at hx
  rcases hx with rfl | hx
  · simp
  ·
   rcases ih x hx with h | h
   · simp [h]
   · exact .inr h
 | case5 p l q w h1 h2 ih =>
  intro x hx
  rw [mergeP,if_neg h1,if_pos h2,putW_mem] at hx
  rcases hx with ⟨rfl,_⟩ | hx
  · simp
  ·
   rcases ih x hx with h | h
   · exact .inl h
   · simp [h]
 | case6 p l q w h1 h2 ih =>
  intro x hx
  rw [mergeP,if_neg h1,if_neg h2,putW_mem] at hx
  rcases hx with ⟨rfl,_⟩ | hx
  · simp
  · rcases ih x hx with h | h<;>simp [h]
theorem sLt_eq {a b:qad} (h1:¬ sLt a b=true) (h2:¬ sLt b a=true):a=b:=by
 have:=sLt_tri a b
 simp only [Bool.not_eq_true] at h1 h2
 rw [h1,h2] at this
 simpa using this
theorem hasP_lt {q:qad} {w:List Pr} (h:∀ x∈w,sLt q x.key=true):hasP w q=false:=hasP_false.2 fun p hp e=>by
 have:=h p hp
 rw [e,qcs] at this;cases this
theorem mergeP_spec (l w:List Pr):ascS (qca l)→ascS (qca w)→ascS (qca (mergeP l w))∧∀ q,q∈mergeP l w↔(q∈l∧hasP w q.key=false)∨(q∈w∧q.v.k≠0):=by
 induction l,w using mergeP.induct with
 | case1=>intro _ _;simp [mergeP,qca]
 | case2 q w ih =>
  intro hl hw
  rw [asc_cons] at hw
  obtain ⟨i1,i2⟩:=ih hl hw.2
  rw [mergeP]
  refine ⟨putW_asc (fun x hx=>?_) i1,fun x=>?_⟩
  ·
   rcases mergeP_mem _ _ x hx with h | h
   · cases h
   · exact hw.1 x h
  ·
   rw [putW_mem,i2]
   simp only [List.not_mem_nil,false_and,false_or,List.mem_cons]
   grind
 | case3 p l ih =>
  intro hl hw
  rw [asc_cons] at hl
  obtain ⟨i1,i2⟩:=ih hl.2 hw
  rw [mergeP]
  refine ⟨asc_cons.2 ⟨fun x hx=>?_,i1⟩,fun x=>?_⟩
  ·
   rcases mergeP_mem _ _ x hx with h | h
   · exact hl.1 x h
   · cases h
  ·
   rw [List.mem_cons,i2]
   simp [hasP,anyL]
 | case4 p l q w h1 ih =>
  intro hl hw
  have hw0:=hw
  rw [asc_cons] at hl hw
  obtain ⟨i1,i2⟩:=ih hl.2 hw0
  have hp:∀ x∈q::w,sLt p.key x.key=true:=fun x hx=>by
   rcases List.mem_cons.1 hx with rfl | hx
   · exact h1
   · exact sLt_trans h1 (hw.1 x hx)
  rw [mergeP,if_pos h1]
  refine ⟨asc_cons.2 ⟨fun x hx=>?_,i1⟩,fun x=>?_⟩
  ·
   rcases mergeP_mem _ _ x hx with h | h
   · exact hl.1 x h
   · exact hp x h
  ·
   rw [List.mem_cons,i2,List.mem_cons (a:=x) (b:=p)]
   have:=hasP_lt hp
   constructor
   ·
    rintro (rfl | ⟨h,h'⟩ | h)
    · exact .inl ⟨.inl rfl,this⟩
    · exact .inl ⟨.inr h,h'⟩
    · exact .inr h
   ·
    rintro (⟨e | h,h'⟩ | h)
    · exact .inl e
    · exact .inr (.inl ⟨h,h'⟩)
    · exact .inr (.inr h)
 | case5 p l q w h1 h2 ih =>
  intro hl hw
  have hl0:=hl
  rw [asc_cons] at hl hw
  obtain ⟨i1,i2⟩:=ih hl0 hw.2
  have hq:∀ x∈p::l,sLt q.key x.key=true:=fun x hx=>by
   rcases List.mem_cons.1 hx with rfl | hx
   · exact h2
   · exact sLt_trans h2 (hl.1 x hx)
  rw [mergeP,if_neg h1,if_pos h2]
  refine ⟨putW_asc (fun x hx=>?_) i1,fun x=>?_⟩
  ·
   rcases mergeP_mem _ _ x hx with h | h
   · exact hq x h
   · exact hw.1 x h
  ·
   rw [putW_mem,i2,hasP_cons,List.mem_cons (a:=x) (b:=q)]
   constructor
   ·
    rintro (⟨rfl,h⟩ | ⟨h,h'⟩ | ⟨h,h'⟩)
    · exact .inr ⟨.inl rfl,h⟩
    ·
     refine .inl ⟨h,?_⟩
     have:¬ q.key=x.key:=fun e=>by have:=hq x h;rw [e,qcs] at this;cases this
     simp [this,h']
    · exact .inr ⟨.inr h,h'⟩
   ·
    rintro (⟨h,h'⟩ | ⟨rfl | h,h'⟩)
    ·
     simp only [Bool.or_eq_false_iff] at h'
     exact .inr (.inl ⟨h,h'.2⟩)
    · exact .inl ⟨rfl,h'⟩
    · exact .inr (.inr ⟨h,h'⟩)
 | case6 p l q w h1 h2 ih =>
  intro hl hw
  rw [asc_cons] at hl hw
  obtain ⟨i1,i2⟩:=ih hl.2 hw.2
  have e:=sLt_eq h1 h2
  have hq:∀ x∈l,sLt q.key x.key=true:=fun x hx=>by rw [← e];exact hl.1 x hx
  rw [mergeP,if_neg h1,if_neg h2]
  refine ⟨putW_asc (fun x hx=>?_) i1,fun x=>?_⟩
  ·
   rcases mergeP_mem _ _ x hx with h | h
   · exact hq x h
   · exact hw.1 x h
  ·
   rw [putW_mem,i2,hasP_cons,List.mem_cons,List.mem_cons]
   constructor
   ·
    rintro (⟨rfl,h⟩ | ⟨h,h'⟩ | ⟨h,h'⟩)
    · exact .inr ⟨.inl rfl,h⟩
    ·
     refine .inl ⟨.inr h,?_⟩
     have:¬ q.key=x.key:=fun e=>by have:=hq x h;rw [e,qcs] at this;cases this
     simp [this,h']
    · exact .inr ⟨.inr h,h'⟩
   ·
    rintro (⟨h | h,h'⟩ | ⟨rfl | h,h'⟩)
    ·
     subst h
     simp only [Bool.or_eq_false_iff,decide_eq_false_iff_not] at h'
     exact (h'.1 e.symm).elim
    ·
     simp only [Bool.or_eq_false_iff] at h'
     exact .inr (.inl ⟨h,h'.2⟩)
    · exact .inl ⟨rfl,h'⟩
    · exact .inr (.inr ⟨h,h'⟩)
theorem mergeP_eq {l w:List Pr} (hl:ascS (qca l)) (hw:ascS (qca w)):mergeP l w=qc2 l w:=by
 obtain ⟨a1,a2⟩:=mergeP_spec l w hl hw
 obtain ⟨b1,b2⟩:=applyP_spec hl hw
 exact asc_ext a1 b1 fun q=>by rw [a2,b2]
end Go.Cw

namespace Go.Cw
open Go Go.Abs
structure RM where
 vars:List Pr
 own:List Pr
 st:Int
 code:Int
 out:List V
 reads:List qad
 puts:List qad
 miss:qad
 steps:Int
def RM.c (C:Cfg) (m:RM):List AV:=[.slice (C.state.map Pr.c),Bo C.all,.slice (C.rd.map qbg),.slice (C.wr.map qbg),.slice (m.vars.map Pr.c),.slice (m.own.map Pr.c),I m.st,I m.code,.slice (m.out.map V.c),.slice (m.reads.map qbg),.slice (m.puts.map qbg),.slice [],S m.miss,I m.steps]
def RM.ab (m:RM) (c:Int):RM:={ m with st:=2,code:=c,out:=[] }
def RM.rst (m:RM) (k:qad):RM:={ m with st:=3,code:=0,out:=[],miss:=k }
section
variable (C:Cfg)
end
end Go.Cw

namespace Go.Cw
open Go Go.Abs
theorem cmpL_lt:∀ (a b:List UInt8),(Go.Lib.compareBytes a b<0↔Op.bytesLess a b=true)∧(Go.Lib.compareBytes a b=0↔a=b)
 | [],[]=>by simp [Go.Lib.compareBytes,Op.bytesLess]
 | [],_::_=>by simp [Go.Lib.compareBytes,Op.bytesLess]
 | _::_,[]=>by simp [Go.Lib.compareBytes,Op.bytesLess]
 | x::a,y::b=>by
  have ih:=cmpL_lt a b
  simp only [Go.Lib.compareBytes,Op.bytesLess,List.cons.injEq]
  split
  ·
   rename_i h
   have:x≠y:=by rintro rfl;exact absurd h (by simp)
   simp [h,this]
  ·
   rename_i h
   split
   ·
    rename_i h2
    have:x≠y:=by rintro rfl;exact absurd h2 (by simp)
    simp [h,this]
   ·
    rename_i h2
    have:x=y:=by
     apply UInt8.toNat_inj.1
     have h3:¬ x.toNat<y.toNat:=h
     have h4:¬ y.toNat<x.toNat:=h2
     omega
    subst this
    simp [ih]
theorem cmpS_lt (a b:qad):(cmpS a b<0↔sLt a b=true)∧(cmpS a b=0↔a=b):=by
 have h:=cmpL_lt a.data.toList b.data.toList
 have e:∀ x:qad,x.toList=x.data.toList:=fun x=>by simp [ByteArray.toList_eq]
 refine ⟨?_,?_⟩
 ·
  unfold cmpS sLt
  rw [e,e]
  exact h.1
 ·
  unfold cmpS
  rw [h.2]
  constructor
  ·
   intro he
   have:a.data=b.data:=Array.toList_inj.1 he
   cases a;cases b;simp_all
  · rintro rfl;rfl
structure Sim (s:MS) (m:RM):Prop where
 vars:∀ k,kGet s.vars k=if hasP m.vars k=true then some (getP m.vars k) else none
 own:∀ k,kGet s.own k=if hasK s.puts k=true then some (getP m.own k) else none
 keys:qca m.own=s.puts
 out:m.out=s.out
 reads:m.reads=s.reads
 puts:m.puts=s.puts
 steps:m.steps=s.steps
 st:m.st=0
 code:m.code=0
 miss:m.miss=em
structure Dead (z:Stop) (s:MS) (m:RM):Prop where
 reads:m.reads=s.reads
 puts:m.puts=s.puts
 steps:m.steps=s.steps
 out:m.out=[]
 st:m.st=z.status
 code:m.code=z.code
 miss:m.miss=z.miss
 ne:z.status≠0
theorem Sim.ab {s:MS} {m:RM} (h:Sim s m) (c:Int):Dead (ab c) s (m.ab c):=⟨h.reads,h.puts,h.steps,rfl,rfl,rfl,h.miss,by simp [Go.Cw.ab]⟩
theorem Sim.rst {s:MS} {m:RM} (h:Sim s m) (k:qad):Dead (rst k) s (m.rst k):=⟨h.reads,h.puts,h.steps,rfl,rfl,rfl,rfl,by simp [Go.Cw.rst]⟩
def EvSim (x:EV×MS) (y:V×RM):Prop:=match x.1 with
 | .ok v=>y.1=v∧Sim x.2 y.2
 | .error z=>y.1=V.nil∧Dead z x.2 y.2
theorem EvSim.ok {v:V} {s:MS} {m:RM} (h:Sim s m):EvSim (.ok v,s) (v,m):=⟨rfl,h⟩
theorem EvSim.ab {c:Int} {s:MS} {m:RM} (h:Sim s m):EvSim (.error (ab c),s) (V.nil,m.ab c):=⟨rfl,h.ab c⟩
section
variable {C:Cfg}
end
end Go.Cw

namespace Go.Cw
open Go Go.Abs
structure YH (P:Program) (l:Nat) (HF:Nat→qaa) (HX:Nat→Ex→qaa) (stop:Ex→Bool) (n0:Nat):Prop where
 len:∀ k,(HF k).length=n0
 lenX:∀ k x,(HX k x).length=n0
 und:∀ k,hUnder n0 (HF k)=true
 undX:∀ k x,hUnder n0 (HX k x)=true
 y:∀ k (x:Ex) (L:qaa),AYield P l [.agg x.x] (HF k++L) fun r h'=>(stop x=true→r=.ret (Bo false)∧h'=HX k x++L)∧(stop x=false→r=.ret (Bo true)∧h'=HF (k+1)++L)
theorem YH.ext {P:Program} {l:Nat} {HF:Nat→qaa} {HX:Nat→Ex→qaa} {stop:Ex→Bool} {n0:Nat} (Y:YH P l HF HX stop n0) (L:qaa) (hL:hUnder (n0+L.length) L=true):YH P l (fun k=>HF k++L) (fun k x=>HX k x++L) stop (n0+L.length) where
 len:=fun k=>by rw [List.length_append,Y.len]
 lenX:=fun k x=>by rw [List.length_append,Y.lenX]
 und:=fun k=>by rw [qaw,qa1 (by omega) (Y.und k),hL];rfl
 undX:=fun k x=>by rw [qaw,qa1 (by omega) (Y.undX k x),hL];rfl
 y:=fun k x L'=>by simpa [List.append_assoc] using Y.y k x (L++L')
def finY (HF:Nat→qaa) (HX:Nat→Ex→qaa) (r:Nat×Option Ex):qaa:=match r.2 with
 | none=>HF r.1
 | some e=>HX r.1 e
def gM (ms:List (Option Nat)):qaa:=ms.map fun | none=>.none | some D=>qcq D
def dM (ms:List (Option Nat)):List Deferred:=(ms.filterMap id).reverse.map coll
def idxM:Nat→List (Option Nat)→List (Nat×Nat)
 | _,[]=>[]
 | k,none::l=>idxM (k+1) l
 | k,some D::l=>idxM (k+1) l++[(k,D)]
theorem idxM_coll:∀ (ms:List (Option Nat)) (k:Nat),(idxM k ms).map (fun p=>coll p.2)=dM ms
 | [],_=>rfl
 | none::l,k=>by simp only [idxM,idxM_coll l];rfl
 | some D::l,k=>by simp [idxM,idxM_coll l,dM]
theorem idxM_ge:∀ (ms:List (Option Nat)) (k:Nat) (p:Nat×Nat),p∈idxM k ms→k≤p.1∧p.1<k+ms.length∧(gM ms)[p.1 - k]?=some (qcq p.2)
 | [],_,p,h=>by simp [idxM] at h
 | none::l,k,p,h=>by
  obtain ⟨h1,h2,h3⟩:=idxM_ge l (k+1) p h
  refine ⟨by omega,by simp;omega,?_⟩
  rw [show p.1 - k=(p.1 - (k+1))+1 by omega]
  exact h3
 | some D::l,k,p,h=>by
  rw [idxM,List.mem_append] at h
  rcases h with h | h
  ·
   obtain ⟨h1,h2,h3⟩:=idxM_ge l (k+1) p h
   refine ⟨by omega,by simp;omega,?_⟩
   rw [show p.1 - k=(p.1 - (k+1))+1 by omega]
   exact h3
  ·
   simp at h
   subst h
   refine ⟨by simp,by simp,?_⟩
   simp [gM]
theorem idxM_nodup:∀ (ms:List (Option Nat)) (k:Nat),((idxM k ms).map (·.1)).Nodup
 | [],_=>List.nodup_nil
 | none::l,k=>idxM_nodup l (k+1)
 | some D::l,k=>by
  rw [idxM,List.map_append,List.nodup_append]
  refine ⟨idxM_nodup l (k+1),by simp,fun a ha b hb=>?_⟩
  rw [List.mem_map] at ha
  obtain ⟨p,hp,rfl⟩:=ha
  have:=(idxM_ge l (k+1) p hp).1
  simp at hb
  omega
theorem takeA:∀ (l:List (Nat×Nat)) (A Z:qaa),(∀ p,p∈l→A.length≤p.1)→∃ Z',takeAll l (A++Z)=A++Z'
 | [],A,Z,_=>⟨Z,rfl⟩
 | p::l,A,Z,h=>by
  rw [takeAll,List.set_append_right _ _ (h p (by simp))]
  exact takeA l A _ fun q hq=>h q (by simp [hq])
theorem gM_app (a b:List (Option Nat)):gM (a++b)=gM a++gM b:=by simp [gM]
theorem dM_snoc (ms:List (Option Nat)) (D:Nat):dM (ms++[none,none,some D])=coll D::dM ms:=by simp [dM,List.filterMap_append]
theorem gM_und (ms:List (Option Nat)) (m:Nat):hUnder m (gM ms)=true:=by
 rw [hUnder_iff]
 intro o ho
 simp only [gM,List.mem_map] at ho
 obtain ⟨x,_,rfl⟩:=ho
 cases x<;>rfl
section
variable {P:Program} {E:Ent} {p:Tmp} {asg body:Code}
def recA (E:Ent) (e:Env) (p:Tmp) (asg body:Code) (l D:Nat) (fn:FuncId) (st:LoopState) (pe:Option Code):AObj:=.raw l (recO st pe fn #[p] asg body D) (slots E.N e)
def roundJ (E:Ent) (idx:Nat) (r0 rb rd:AObj) (R:AEnd→qaa→Prop):AExit→List Deferred→Env→Prop
 | .normal,_,e=>e.h[idx]?=some rb∧∃ h',Wk E ⟨[],e.h.set idx r0⟩ ⟨[],h'⟩∧R (.ret (.val (.bool true))) h'
 | .ret,_,e=>e.h[idx]?=some rb∧∃ h',Wk E ⟨[],e.h.set idx rd⟩ ⟨[],h'⟩∧R (.ret (.val (.bool false))) h'
 | _,_,_=>False
theorem awpI_rangeY {g:Operand} {gf:FuncId} {caps:List AV} {Q:AExit→List Deferred→Env→Prop} {ds:List Deferred} {e:Env} (hg:e.get g=.fn (.func gf) [] caps) (hcaps:∀ H,qa4 H caps=caps)
  (B:Nat→qaa) (X:Nat→Ex→qaa) (stop:Ex→Bool) (xs:List Ex) (k n0:Nat) (hB:e.h=B k) (len:∀ j,(B j).length=n0) (lenX:∀ j x,(X j x).length=n0) (und:∀ j,hUnder n0 (B j)=true) (undX:∀ j x,hUnder n0 (X j x)=true)
  (hsl:qat n0 (slots E.N e)=true) (hp:p<E.N)
  (hit:∀ (l:Nat) (L:qaa) (HX:Nat→Ex→qaa) (n1:Nat),YH P l (fun j=>B j++L) HX stop n1→ACalls P gf ([.fn (.yield l) [] []]++caps) (B k++L) fun r h'=>r=.ret (.tuple [])∧h'=finY (fun j=>B j++L) HX (scan stop xs k))
  (hround:∀ (E':Ent) (l D j:Nat) (x:Ex) (L:qaa) (r0 rb rd:AObj),(∀ m,n0≤m→r0.under m=true∧rb.under m=true∧rd.under m=true)→E'.N=E.N→E'.h=B j++qcq D::r0::L→hUnder E'.h.length E'.h=true→(AV.agg x.x).bd →
   AWpI P E' (some l) asg (thenI (fun ds e1=>ds=[]∧e1.h[n0+1]?=some r0 ∧
    AWpI P E' (some l) body (roundJ E' (n0+1) r0 rb rd fun r h' =>
     (stop x=true→r=.ret (Bo false)∧h'=X j x++qcq D::rd::L)∧(stop x=false→r=.ret (Bo true)∧h'=B (j+1)++qcq D::r0::L))
     [] ⟨e1.t,e1.h.set (n0+1) rb⟩) (fun _ _ _=>False)) [] ⟨(p,.agg x.x)::qcn 0 (slots E.N e),E'.h⟩)
  (hdone:∀ (j D:Nat) (o:AObj),scan stop xs k=(j,none)→Q .normal (coll D::ds) ⟨e.t,B j++[qcq D,o]⟩)
  (hstop:∀ (j:Nat) (x:Ex) (D:Nat) (o:AObj),scan stop xs k=(j,some x)→Q .ret (coll D::ds) ⟨e.t,X j x++[qcq D,o]⟩) :
  AWpI P E none (.rangeFunc g #[p] asg body) Q ds e:=by
 refine awpI_range hg fun fn D l=>?_
 have hL:∀ st pe,hUnder (n0+2) [qcq D,recA E e p asg body l D fn st pe]=true:=fun st pe=>by
  simp only [hUnder,qcq,recA,AObj.under,qat,Bool.true_and,Bool.and_true]
  exact qbq (by omega) _ hsl
 have hnl:qa4 (e.h++[qcq D,.raw l (recO .ready none fn #[p] asg body D) (slots E.N e)]) ([.fn (.yield l) [] []]++caps)=[.fn (.yield l) [] []]++caps:=by
  have:∀ (a b:List AV) H,qa4 H (a++b)=qa4 H a++qa4 H b:=fun a b H=>by
   induction a with
   | nil=>rfl
   | cons x a ih=>simp [qa4,ih]
  rw [this,hcaps]
  simp [qa4,AV.norm]
 rw [hnl,hB]
 have Y:YH P l (fun j=>B j++[qcq D,recA E e p asg body l D fn .ready none]) (fun j x=>X j x++[qcq D,recA E e p asg body l D fn .done (some .ret)]) stop (n0+2):={
  len:=fun j=>by simp [len]
  lenX:=fun j x=>by simp [lenX]
  und:=fun j=>by rw [qaw,qa1 (by omega) (und j),hL];rfl
  undX:=fun j x=>by rw [qaw,qa1 (by omega) (undX j x),hL];rfl
  y:=fun j x L=>by
   have hidx:(B j++[qcq D,recA E e p asg body l D fn .ready none]++L)[n0+1]?=some (.raw l (recO .ready none fn #[p] asg body D) (slots E.N e)):=by
    rw [List.append_assoc,List.getElem?_append_right (by rw [len];omega),len,show n0+1 - n0=1 by omega]
    rfl
   refine ayield_of hidx (by simpa [slots] using hp) fun E' hN hh hu hbd _=>?_
   have hN':E'.N=E.N:=by rw [hN];simp [slots]
   have hh':E'.h=B j++qcq D::recA E e p asg body l D fn .ready none::L:=by rw [hh];simp
   have hun:∀ st pe m,n0≤m→(recA E e p asg body l D fn st pe).under m=true:=fun st pe m hm=>qbq hm _ hsl
   have:=hround E' l D j x L _ (recA E e p asg body l D fn .busy none) (recA E e p asg body l D fn .done (some .ret)) (fun m hm=>⟨hun _ _ m hm,hun _ _ m hm,hun _ _ m hm⟩) hN' hh' (by rw [hh];exact hu) hbd
   have hJ:∀ R,roundJ E' (n0+1) (recA E e p asg body l D fn .ready none) (recA E e p asg body l D fn .busy none) (recA E e p asg body l D fn .done (some .ret)) R=roundI E' (n0+1) l fn #[p] asg body D (slots E.N e) R:=fun R=>by
    funext x ds e
    cases x<;>rfl
   rw [hJ,hh'] at this
   simpa [recA] using this }
 refine (hit l [qcq D,recA E e p asg body l D fn .ready none] _ (n0+2) Y).mono ?_
 rintro r h' ⟨rfl,rfl⟩
 refine ⟨⟨_,rfl⟩,?_⟩
 rcases hsc:scan stop xs k with ⟨j,_ | x⟩
 ·
  refine ⟨.ready,none,by simp,?_,?_⟩
  ·
   simp only [finY]
   rw [List.getElem?_append_right (by rw [len,len];omega),len,len,show n0+1 - n0=1 by omega]
   rfl
  ·
   simp only [finY]
   rw [List.set_append_right _ _ (by rw [len,len];omega),len,len,show n0+1 - n0=1 by omega]
   exact hdone j D _ hsc
 ·
  refine ⟨.done,some .ret,by simp,?_,?_⟩
  ·
   simp only [finY]
   rw [List.getElem?_append_right (by rw [len,lenX];omega),len,lenX,show n0+1 - n0=1 by omega]
   rfl
  ·
   simp only [finY]
   rw [List.set_append_right _ _ (by rw [len,lenX];omega),len,lenX,show n0+1 - n0=1 by omega]
   exact awpI_ret (hstop j x D _ hsc)
end
end Go.Cw

namespace Go.Cw
open Go Go.Abs
section
variable {fmt:Int→qad}
theorem round_next {procs:List Proc} {s:List Pr} {l:List Txn} {n:Nat} (h:n<l.length):qau fmt procs s (l.take (n+1))=((oneS fmt procs (qau fmt procs s (l.take n)).1 l[n]).1,(qau fmt procs s (l.take n)).2++[(oneS fmt procs (qau fmt procs s (l.take n)).1 l[n]).2]):=by
 rw [List.take_succ_eq_append_getElem h,round_snoc]
theorem runIn_one {procs:List Proc} {l:List Txn} {s:List Pr} (hB:BatchIn fmt procs l) (hs:rngL s) {t:Txn} (ht:t∈l):∀ p,findP procs t=some p→RunIn fmt p t.args s:=fun p hp=>⟨hB.fmt,hB.body p (findP_mem hp).1,hB.args t ht,hs⟩
theorem qcz {procs:List Proc} {s:List Pr} {l:List Txn} (hs:rngL s) (hB:BatchIn fmt procs l) (n:Nat) (h:n≤l.length):rngL (qau fmt procs s (l.take n)).1∧(qau fmt procs s (l.take n)).1.length≤s.length+64 * n∧(qau fmt procs s (l.take n)).2.length=n:=by
 have h2:=round_ok hs (l.take n) (hB.take n)
 have h3:=h2.len
 have h4:=h2.cnt
 rw [List.length_take,Nat.min_eq_left h] at h3 h4
 exact ⟨h2.rng,h3,h4⟩
end
end Go.Cw

namespace Go.Cw
open Go Go.Abs
def effF (f:Foot):Foot:=if footOk f.all f.reads f.writes=true then f else ⟨true,[],[]⟩
def depS (a b:Foot):Bool:=if b.all=true then true else if a.all=true then decide (0<b.reads.length) else a.writes.any fun k=>hasK b.reads k
def depsOf (l:List Foot) (j:Nat) (f:Foot):List Nat:=(List.range j).filter fun i=>match l[i]? with | some g=>depS (effF g) (effF f) | none=>false
section
variable {fmt:Int→qad}
def serSt (fmt:Int→qad) (procs:List Proc) (s:List Pr) (l:List Txn) (i:Nat):List Pr:=(qau fmt procs s (l.take i)).1
def serEf (fmt:Int→qad) (procs:List Proc) (s:List Pr) (l:List Txn) (i:Nat) (t:Txn):Eff:=(oneS fmt procs (serSt fmt procs s l i) t).2
structure MvIn (fmt:Int→qad) (procs:List Proc) (s:List Pr) (l:List Txn) (effs:List Eff) (done:List Bool):Prop where
 le:effs.length=l.length
 ld:done.length=l.length
 ok:∀ i (h:i<l.length),done.getD i false=true→effs[i]?=some (serEf fmt procs s l i l[i])
section
variable {procs:List Proc} {s:List Pr} {l:List Txn} {effs:List Eff} {done:List Bool}
end
end
end Go.Cw

namespace Go.Cw
open Go Go.Abs
def depsL (fs:List Foot) (j:Nat):List Nat:=match fs[j]? with | some f=>depsOf fs j f | none=>[]
section
variable (fmt:Int→qad)
end
structure MvJ (fmt:Int→qad) (procs:List Proc) (s:List Pr) (l:List Txn) (n:Nat) (x:List Eff×List Bool×List Nat):Prop where
 inv:MvIn fmt procs s l x.1 x.2.1
 len:x.2.2.length=n
 nod:x.2.2.Nodup
 mem:∀ j,x.2.1.getD j false=true↔j∈x.2.2
 lt:∀ j∈x.2.2,j<l.length
 dep:∀ a (h:a<x.2.2.length),∀ i∈depsL (l.map (·.ft)) x.2.2[a],i∈x.2.2.take a
section
variable {fmt:Int→qad} {procs:List Proc} {s:List Pr} {l:List Txn} {choices:List Int}
end
end Go.Cw

namespace Go.Cw
open Go Go.Abs
section
variable {fmt:Int→qad} {procs:List Proc} {s:List Pr}
end
end Go.Cw

namespace Go.Cw
open Go Go.Abs
theorem alike_recon (C:Cfg) (R P:List qad) (hC:C.all=true):Alike C { C with all:=false,rd:=R,wr:=P } Grow (fun _ m=>(∀ k∈m.reads,k∈R)∧∀ k∈m.puts,k∈P) where
 K:=grow_keeps C
 fmt:=rfl
 mono:=fun h g=>⟨fun k hk=>g.1 k (h.1 k hk),fun k hk=>g.2 k (h.2.1 k hk)⟩
 fetch:=fun k s h=>by
  unfold qbw at h ⊢
  by_cases h0:keyOk k=false
  · rw [if_pos h0,if_pos h0]
  ·
   rw [if_neg h0] at h
   rw [if_neg h0,if_neg h0]
   rcases hg:kGet s.own k with _ | v
   ·
    rw [hg] at h
    simp only at h ⊢
    rw [if_neg (by simp [hC])] at h
    have hk:k∈R:=h.1 k (withS_mem.2 (.inl rfl))
    rw [if_neg (c:=C.all=false∧_) (by simp [hC]),if_neg (by simp [hasK_iff.2 hk])]
   · rfl
 store:=fun k v s h=>by
  unfold qbt at h ⊢
  by_cases h0:keyOk k=false
  · rw [if_pos h0,if_pos h0]
  ·
   rw [if_neg h0,if_neg (by simp [hC])] at h
   have hk:k∈P:=h.2 k (withS_mem.2 (.inl rfl))
   rw [if_neg h0,if_neg h0]
   rw [if_neg (c:=C.all=false∧_) (by simp [hC]),if_neg (by simp [hasK_iff.2 hk])]
section
variable {fmt:Int→qad} {p:Proc} {args:List V} {st:List Pr}
abbrev ftAll:Foot:=⟨true,[],[]⟩
abbrev ftOf (e:Eff):Foot:=⟨false,e.reads,e.puts⟩
theorem footOk_of (hI:RunIn fmt p args st) (ft:Foot) (hc:qbs p=0):footOk false (runS fmt p args st ft).reads (runS fmt p args st ft).puts=true:=by
 have h1:=run_bounds (ft:=ft) hI hc
 have h2:=cost_lim hc
 have ha:=run_asc (fmt:=fmt) (p:=p) (args:=args) (st:=st) (ft:=ft)
 unfold footOk
 rw [if_neg (by simp)]
 simp only [Bool.and_eq_true,decide_eq_true_eq]
 refine ⟨⟨(ascK_iff _ _).2 ⟨fun k hk=>(run_reads hk).2.1,ha.1,fun k h=>by cases h⟩,by omega⟩,⟨(ascK_iff _ _).2 ⟨fun k hk=>(run_puts hk).1,ha.2,fun k h=>by cases h⟩,by omega⟩⟩
theorem run_recon (hI:RunIn fmt p args st):runS fmt p args st (ftOf (runS fmt p args st ftAll))=runS fmt p args st ftAll:=by
 by_cases hr:runOk p args st ftAll
 ·
  have hr':=(qb1 _ _ _ _).1 hr
  have hr2:runOk p args st (ftOf (runS fmt p args st ftAll)):=(qb1 _ _ _ _).2 ⟨hr'.1,hr'.2.1,hr'.2.2.1,footOk_of hI ftAll hr'.1⟩
  rw [qcy hr2]
  have e1:=qcy (fmt:=fmt) hr
  have e2:ftOf (runS fmt p args st ftAll)=⟨false,(qcl (cfgR fmt st ftAll) p.body (ms0 p args)).2.reads,(qcl (cfgR fmt st ftAll) p.body (ms0 p args)).2.puts⟩:=by rw [e1,ftOf,done_reads,done_puts]
  rw [e2,e1]
  have:=two_blk (alike_recon (cfgR fmt st ftAll) (qcl (cfgR fmt st ftAll) p.body (ms0 p args)).2.reads (qcl (cfgR fmt st ftAll) p.body (ms0 p args)).2.puts rfl) p.body (ms0 p args) ⟨fun _ h=>h,fun _ h=>h⟩
  exact congrArg doneS this
 ·
  rw [runS_no hr]
  refine runS_no fun h=>hr ?_
  have:=(qb1 _ _ _ _).1 h
  exact (qb1 _ _ _ _).2 ⟨this.1,this.2.1,this.2.2.1,footOk_all⟩
theorem run_status (ft:Foot):(runS fmt p args st ft).status=1∨(runS fmt p args st ft).status=2∨(runS fmt p args st ft).status=3:=by
 by_cases h:(runS fmt p args st ft).status=1
 · exact .inl h
 ·
  have:=(run_else h).2.2
  rcases this with h | h
  · exact .inr (.inl h)
  · exact .inr (.inr h.1)
end
section
variable (fmt:Int→qad)
def reconS (p:Proc) (args:List V) (st:List Pr):Foot×Int :=
 if qbs p≠0∨qci p args≠0∨qbc st=false then (⟨false,[],[]⟩,1) else (ftOf (runS fmt p args st ftAll),0)
def qct (procs:List Proc) (s:List Pr) (t:Txn):Txn :=
 if 2≤t.att then ⟨t.id,t.proc,t.args,ftAll,3⟩
 else match findN procs t.proc with
  | none=>⟨t.id,t.proc,t.args,ftAll,2⟩
  | some p=>⟨t.id,t.proc,t.args,if (reconS fmt p t.args s).2=0 then (reconS fmt p t.args s).1 else ftAll,2⟩
structure Res where
 id:Int
 att:Int
 status:Int
 code:Int
 out:List V
def Res.c (r:Res):List AV:=[I r.id,I r.att,I r.status,I r.code,.slice (r.out.map V.c)]
def resOf (t:Txn) (e:Eff):Res:=⟨t.id,t.att,e.status,e.code,e.out⟩
def Res.z:Res:=⟨0,0,0,0,[]⟩
def qb0 (procs:List Proc) (s:List Pr):List Txn→List Eff→List Nat→List Res×List Txn×List Nat→List Res×List Txn×List Nat
 | t::l,e::es,i::is,(out,nx,lf)=>qb0 procs s l es is (out.set i (resOf t e),if e.status=3 then (nx++[qct fmt procs s t],lf++[i]) else (nx,lf))
 | _,_,_,x=>x
def batchF (procs:List Proc):Nat→List Pr→List Txn→List Nat→List Res→List Pr×List Res
 | 0,s,_,_,out=>(s,out)
 | f+1,s,l,at',out =>
  if l=[] then (s,out)
  else
   let r:=qau fmt procs s l
   let y:=qb0 fmt procs r.1 l r.2 at' (out,[],[])
   batchF procs f r.1 y.2.1 y.2.2 y.1
end
section
variable {fmt:Int→qad}
theorem one_status {procs:List Proc} {s:List Pr} {t:Txn}:(oneS fmt procs s t).2.status=1∨(oneS fmt procs s t).2.status=2∨(oneS fmt procs s t).2.status=3:=by
 unfold oneS
 split
 · exact .inr (.inl rfl)
 ·
  rename_i p hp
  have:=run_status (fmt:=fmt) (p:=p) (args:=t.args) (st:=s) t.ft
  split<;>exact this
theorem one_all {procs:List Proc} {s:List Pr} {t:Txn} (h:t.ft.all=true):(oneS fmt procs s t).2.status≠3:=by
 unfold oneS
 split
 · simp [wrongE]
 ·
  rename_i p hp
  have:=run_all (fmt:=fmt) (p:=p) (args:=t.args) (st:=s) (ft:=t.ft) h
  split<;>exact this
theorem one_retry {procs:List Proc} {s:List Pr} {t:Txn} (hf:∀ n,i64 n→qbk (fmt n)=true) (hb:∀ p∈procs,∀ t∈p.body,rngS t) (ha:∀ v∈t.args,rngV v) (hs:rngL s):(oneS fmt procs s (qct fmt procs s t)).2.status≠3:=by
 unfold qct
 split
 · exact one_all rfl
 ·
  split
  · exact one_all rfl
  ·
   rename_i p hp
   split
   ·
    rename_i hr
    unfold oneS findP
    simp only [hp]
    by_cases hg:qci p t.args=0
    ·
     rw [if_pos hg]
     simp only
     unfold reconS at hr ⊢
     by_cases hk:qbs p≠0∨qci p t.args≠0∨qbc s=false
     · rw [if_pos hk] at hr;simp at hr
     ·
      rw [if_neg hk]
      simp only
      have hmem:p∈procs:=List.mem_of_find?_eq_some hp
      have hI:RunIn fmt p t.args s:=⟨hf,hb p hmem,ha,hs⟩
      have h1:(runS fmt p t.args s (ftOf (runS fmt p t.args s ftAll))).status≠3:=by
       rw [run_recon hI]
       exact run_all rfl
      split<;>exact h1
    ·
     rw [if_neg hg]
     simp [wrongE]
   · exact one_all rfl
theorem round_app (procs:List Proc) (s:List Pr) (a b:List Txn):qau fmt procs s (a++b)=((qau fmt procs (qau fmt procs s a).1 b).1,(qau fmt procs s a).2++(qau fmt procs (qau fmt procs s a).1 b).2):=by
 refine snoc_ind (P:=fun b=>qau fmt procs s (a++b)=((qau fmt procs (qau fmt procs s a).1 b).1,(qau fmt procs s a).2++(qau fmt procs (qau fmt procs s a).1 b).2)) ?_ (fun b t ih=>?_) b
 · simp [qau]
 ·
  rw [← List.append_assoc,round_snoc,round_snoc,ih]
  simp
theorem round_cnt (procs:List Proc) (s:List Pr):∀ l:List Txn,(qau fmt procs s l).2.length=l.length:=by
 refine snoc_ind rfl fun l t ih=>?_
 rw [round_snoc]
 simp [ih]
theorem round_split (procs:List Proc) (s:List Pr) (l:List Txn) (n:Nat):qau fmt procs s l=((qau fmt procs (qau fmt procs s (l.take n)).1 (l.drop n)).1,(qau fmt procs s (l.take n)).2++(qau fmt procs (qau fmt procs s (l.take n)).1 (l.drop n)).2):=by
 rw [← round_app,List.take_append_drop]
end
end Go.Cw

namespace Go.Cw
open Go Go.Abs
section
variable {fmt:Int→qad}
def lvl (k:Nat) (l:List Txn):Prop:=match k with
 | 0=>l=[]
 | 1=>∀ t∈l,t.ft.all=true
 | 2=>∀ t∈l,2≤t.att
 | _=>True
theorem round_none {procs:List Proc}:∀ (l:List Txn) (s:List Pr),(∀ t∈l,t.ft.all=true)→∀ e∈(qau fmt procs s l).2,e.status≠3:=fun l=>by
 refine snoc_ind (P:=fun l=>∀ s,(∀ t∈l,t.ft.all=true)→∀ e∈(qau fmt procs s l).2,e.status≠3) (fun s _ e he=>by simp [qau] at he) (fun l t ih s h e he=>?_) l
 rw [round_snoc] at he
 rcases List.mem_append.1 he with he | he
 · exact ih s (fun t ht=>h t (by simp [ht])) e he
 ·
  rw [List.mem_singleton.1 he]
  exact one_all (h t (by simp))
theorem tally_next {procs:List Proc} {s:List Pr}:∀ (l:List Txn) (es:List Eff) (is:List Nat) (x:List Res×List Txn×List Nat) (P:Txn→Prop),(∀ t∈x.2.1,P t)→(∀ t∈l,∀ e∈es,e.status=3→P (qct fmt procs s t))→∀ t∈(qb0 fmt procs s l es is x).2.1,P t
 | [],es,is,x,P,h,_=>by rw [qb0];exact h;simp
 | t::l,[],is,x,P,h,_=>by rw [qb0];exact h;simp
 | t::l,e::es,[],x,P,h,_=>by rw [qb0];exact h;simp
 | t::l,e::es,i::is,(out,nx,lf),P,h,hn=>by
  rw [qb0]
  refine tally_next l es is _ P (fun u hu=>?_) fun u hu e' he' h3=>hn u (by simp [hu]) e' (by simp [he']) h3
  split at hu
  ·
   rename_i h3
   rcases List.mem_append.1 hu with hu | hu
   · exact h u hu
   · rw [List.mem_singleton.1 hu];exact hn t (by simp) e (by simp) h3
  · exact h u hu
theorem retry_att {procs:List Proc} {s:List Pr} (t:Txn):2≤(qct fmt procs s t).att:=by
 unfold qct
 split
 · exact (by decide:(2:Int)≤3)
 · split<;>exact (by decide:(2:Int)≤2)
theorem retry_all {procs:List Proc} {s:List Pr} {t:Txn} (h:2≤t.att):(qct fmt procs s t).ft.all=true:=by
 unfold qct
 rw [if_pos h]
theorem lvl_next {procs:List Proc} {s:List Pr} {l:List Txn} {is:List Nat} {out:List Res} {k:Nat} (h:lvl (k+1) l):lvl k (qb0 fmt procs (qau fmt procs s l).1 l (qau fmt procs s l).2 is (out,[],[])).2.1:=by
 match k with
 | 0 =>
  have h:∀ t∈l,t.ft.all=true:=h
  have h3:=round_none (fmt:=fmt) (procs:=procs) l s h
  refine List.eq_nil_iff_forall_not_mem.2 fun t ht=>?_
  exact tally_next l _ is (out,[],[]) (fun _=>False) (by simp) (fun t _ e he h=>h3 e he h) t ht
 | 1 =>
  have h:∀ t∈l,2≤t.att:=h
  exact tally_next l _ is (out,[],[]) (fun t=>t.ft.all=true) (by simp) (fun t ht e he _=>retry_all (h t ht))
 | 2=>exact tally_next l _ is (out,[],[]) (fun t=>2≤t.att) (by simp) (fun t ht e he _=>retry_att t)
 | k+3=>trivial
def batchS (fmt:Int→qad) (procs:List Proc) (s:List Pr) (l:List Txn):List Pr×List Res:=batchF fmt procs 3 s l (List.range l.length) (List.replicate l.length Res.z)
structure Tal (L:List Txn) (l:List Txn) (is:List Nat) (out:List Res):Prop where
 len:is.length=l.length
 ol:out.length=L.length
 nod:is.Nodup
 lt:∀ i∈is,i<L.length
 id:∀ j (h:j<l.length) (h':j<is.length) (h2:is[j]<L.length),l[j].id=L[is[j]].id
 done:∀ i (h:i<L.length) (h':i<out.length),i∈is∨(out[i].id=L[i].id∧(out[i].status=1∨out[i].status=2))
theorem retry_id {procs:List Proc} {s:List Pr} (t:Txn):(qct fmt procs s t).id=t.id:=by
 unfold qct
 split
 · rfl
 · split<;>rfl
theorem get_congr {α:Type} {L:List α} {a b:Nat} (e:a=b) (ha:a<L.length) (hb:b<L.length):L[a]=L[b]:=by subst e;rfl
theorem tally_ok {procs:List Proc} {s:List Pr} {L:List Txn}:∀ (l:List Txn) (es:List Eff) (is:List Nat) (out:List Res) (nx:List Txn) (lf:List Nat),es.length=l.length→(∀ e∈es,e.status=1∨e.status=2∨e.status=3)→Tal L (nx++l) (lf++is) out→lf.length=nx.length →
  Tal L (qb0 fmt procs s l es is (out,nx,lf)).2.1 (qb0 fmt procs s l es is (out,nx,lf)).2.2 (qb0 fmt procs s l es is (out,nx,lf)).1
 | [],es,is,out,nx,lf,_,_,h,hn=>by
  have hi:is=[]:=by
   have:=h.len
   simp at this
   exact List.eq_nil_of_length_eq_zero (by omega)
  subst hi
  rw [qb0]
  · simpa using h
  · simp
 | t::l,[],is,out,nx,lf,he,_,_,_=>by cases he
 | t::l,e::es,[],out,nx,lf,_,_,h,hn=>by
  have:=h.len
  simp at this
  omega
 | t::l,e::es,i::is,out,nx,lf,he,hst,h,hn=>by
  rw [qb0]
  have hil:i<L.length:=h.lt i (by simp)
  have hid:t.id=L[i].id:=by
   have:=h.id nx.length (by simp) (by simp [hn]) (by simp [← hn];exact hil)
   simpa [← hn] using this
  have hout:∀ r:Res,∀ j (h1:j<L.length) (h2:j<(out.set i r).length),j≠i→(j∈lf++i::is∨((out.set i r)[j].id=L[j].id∧((out.set i r)[j].status=1∨(out.set i r)[j].status=2))):=fun r j h1 h2 hj=>by
   have h3:j<out.length:=by simpa using h2
   rw [List.getElem_set_ne (fun e=>hj e.symm)]
   exact h.done j h1 h3
  by_cases h3:e.status=3
  ·
   rw [if_pos h3]
   refine tally_ok l es is _ _ _ (by simpa using he) (fun e' he'=>hst e' (by simp [he'])) ⟨?_,?_,?_,?_,?_,?_⟩ (by simp [hn])
   · have:=h.len;simp at this ⊢;omega
   · simpa using h.ol
   · simpa using h.nod
   · simpa using h.lt
   ·
    intro j h1 h2 h4
    simp only [List.append_assoc,List.singleton_append] at h1 h2 h4 ⊢
    have h5:=h.id j (by simpa using h1) (by simpa using h2) h4
    rw [← h5]
    by_cases hj:j=nx.length
    ·
     subst hj
     simp [retry_id]
    ·
     by_cases hj2:j<nx.length
     · rw [List.getElem_append_left hj2,List.getElem_append_left hj2]
     ·
      rw [List.getElem_append_right (by omega),List.getElem_append_right (by omega)]
      obtain ⟨m,hm⟩:∃ m,j - nx.length=m+1:=⟨j - nx.length - 1,by omega⟩
      simp only [hm,List.getElem_cons_succ]
   ·
    intro j h1 h2
    by_cases hj:j=i
    · subst hj;exact .inl (by simp)
    ·
     have:=hout (resOf t e) j h1 h2 hj
     simpa using this
  ·
   rw [if_neg h3]
   have hstat:e.status=1∨e.status=2:=by have:=hst e (by simp);omega
   refine tally_ok l es is _ _ _ (by simpa using he) (fun e' he'=>hst e' (by simp [he'])) ⟨?_,?_,?_,?_,?_,?_⟩ hn
   · have:=h.len;simp at this ⊢;omega
   · simpa using h.ol
   ·
    have:=h.nod
    exact (List.nodup_append.1 this).1 |> fun a=>List.nodup_append.2 ⟨a,(List.nodup_cons.1 (List.nodup_append.1 this).2.1).2,fun x hx y hy=>(List.nodup_append.1 this).2.2 x hx y (by simp [hy])⟩
   ·
    intro j hj
    refine h.lt j ?_
    simp only [List.mem_append,List.mem_cons] at hj ⊢
    rcases hj with hj | hj<;>simp [hj]
   ·
    intro j h1 h2 h4
    by_cases hj2:j<nx.length
    ·
     have h5:=h.id j (by simp at h1 ⊢;omega) (by simp at h2 ⊢;omega) (by
      rw [List.getElem_append_left (by omega)] at h4 ⊢;exact h4)
     rw [List.getElem_append_left hj2] at h5 ⊢
     rw [h5]
     exact congrArg Txn.id (get_congr (by rw [List.getElem_append_left (by omega),List.getElem_append_left (by omega)]) _ _)
    ·
     simp only [List.length_append] at h1 h2
     have e1:(lf++i::is)[j+1]'(by simp;omega)=(lf++is)[j]'(by simp;omega):=by
      rw [List.getElem_append_right (by omega),List.getElem_append_right (by omega)]
      have:j+1 - lf.length=(j - lf.length)+1:=by omega
      simp only [this,List.getElem_cons_succ]
     have e2:(nx++t::l)[j+1]'(by simp;omega)=(nx++l)[j]'(by simp;omega):=by
      rw [List.getElem_append_right (by omega),List.getElem_append_right (by omega)]
      have:j+1 - nx.length=(j - nx.length)+1:=by omega
      simp only [this,List.getElem_cons_succ]
     have h5:=h.id (j+1) (by simp;omega) (by simp;omega) (by rw [e1];exact h4)
     rw [e2] at h5
     rw [h5]
     exact congrArg Txn.id (get_congr e1 _ _)
   ·
    intro j h1 h2
    by_cases hj:j=i
    ·
     subst hj
     refine .inr ?_
     rw [List.getElem_set_self]
     exact ⟨hid,hstat⟩
    ·
     rcases hout (resOf t e) j h1 h2 hj with h5 | h5
     ·
      simp only [List.mem_append,List.mem_cons] at h5
      rcases h5 with h5 | h5 | h5
      · exact .inl (by simp [h5])
      · exact (hj h5).elim
      · exact .inl (by simp [h5])
     · exact .inr h5
theorem round_status {procs:List Proc}:∀ (l:List Txn) (s:List Pr),∀ e∈(qau fmt procs s l).2,e.status=1∨e.status=2∨e.status=3:=fun l=>by
 refine snoc_ind (P:=fun l=>∀ s,∀ e∈(qau fmt procs s l).2,e.status=1∨e.status=2∨e.status=3) (fun s e he=>by simp [qau] at he) (fun l t ih s e he=>?_) l
 rw [round_snoc] at he
 rcases List.mem_append.1 he with he | he
 · exact ih s e he
 ·
  rw [List.mem_singleton.1 he]
  exact one_status
theorem batch_ok {procs:List Proc} {L:List Txn}:∀ (k:Nat) (s:List Pr) (l:List Txn) (is:List Nat) (out:List Res),lvl k l→Tal L l is out→Tal L [] [] (batchF fmt procs k s l is out).2
 | 0,s,l,is,out,h,hT=>by
  have h:l=[]:=h
  subst h
  have hi:is=[]:=List.eq_nil_of_length_eq_zero (by have:=hT.len;simpa using this)
  subst hi
  rw [batchF]
  exact hT
 | k+1,s,l,is,out,h,hT=>by
  rw [batchF]
  by_cases hl:l=[]
  ·
   rw [if_pos hl]
   subst hl
   have hi:is=[]:=List.eq_nil_of_length_eq_zero (by have:=hT.len;simpa using this)
   subst hi
   exact hT
  ·
   rw [if_neg hl]
   exact batch_ok k _ _ _ _ (lvl_next h) (tally_ok l _ is out [] [] (round_cnt procs s l) (round_status l s) (by simpa using hT) rfl)
theorem batch_ends {procs:List Proc} {s:List Pr} (L:List Txn):(batchS fmt procs s L).2.length=L.length∧∀ i (h:i<L.length) (h':i<(batchS fmt procs s L).2.length),(batchS fmt procs s L).2[i].id=L[i].id∧((batchS fmt procs s L).2[i].status=1∨(batchS fmt procs s L).2[i].status=2):=by
 have h0:Tal L L (List.range L.length) (List.replicate L.length Res.z):=⟨by simp,by simp,List.nodup_range,fun i hi=>List.mem_range.1 hi,fun j h h' h2=>by simp,fun i h h'=>.inl (List.mem_range.2 h)⟩
 have:=batch_ok (fmt:=fmt) (procs:=procs) 3 s L _ _ trivial h0
 exact ⟨this.ol,fun i h h'=>(this.done i h h').elim (fun g=>by cases g) id⟩
end
end Go.Cw

namespace Go.Cw
open Go Go.Abs
section
variable {fmt:Int→qad}
theorem tally_inv {procs:List Proc} {s:List Pr}:∀ (l:List Txn) (es:List Eff) (is:List Nat) (out:List Res) (nx:List Txn) (lf:List Nat),es.length=l.length→is.length=l.length→lf.length=nx.length→(∀ i∈is,i<out.length)→(∀ i∈lf,i<out.length) →
  (qb0 fmt procs s l es is (out,nx,lf)).2.2.length=(qb0 fmt procs s l es is (out,nx,lf)).2.1.length∧(qb0 fmt procs s l es is (out,nx,lf)).1.length=out.length∧(∀ i∈(qb0 fmt procs s l es is (out,nx,lf)).2.2,i<out.length)∧(qb0 fmt procs s l es is (out,nx,lf)).2.1.length≤nx.length+l.length
 | [],es,is,out,nx,lf,_,_,hn,_,hlf=>by
  rw [qb0]
  · exact ⟨hn,rfl,hlf,by simp⟩
  · simp
 | t::l,[],is,out,nx,lf,he,_,_,_,_=>by cases he
 | t::l,e::es,[],out,nx,lf,_,hi,_,_,_=>by cases hi
 | t::l,e::es,i::is,out,nx,lf,he,hi,hn,his,hlf=>by
  rw [qb0]
  by_cases h3:e.status=3
  ·
   rw [if_pos h3]
   have:=tally_inv (procs:=procs) (s:=s) l es is (out.set i (resOf t e)) (nx++[qct fmt procs s t]) (lf++[i]) (by simpa using he) (by simpa using hi) (by simp [hn]) (by simpa using fun j hj=>his j (by simp [hj])) (by
    intro j hj
    rw [List.length_set]
    rcases List.mem_append.1 hj with hj | hj
    · exact hlf j hj
    · rw [List.mem_singleton.1 hj];exact his i (by simp))
   simp only [List.length_set,List.length_append,List.length_cons,List.length_nil] at this ⊢
   refine ⟨this.1,this.2.1,this.2.2.1,by have:=this.2.2.2;omega⟩
  ·
   rw [if_neg h3]
   have:=tally_inv (procs:=procs) (s:=s) l es is (out.set i (resOf t e)) nx lf (by simpa using he) (by simpa using hi) hn (by simpa using fun j hj=>his j (by simp [hj])) (by simpa using hlf)
   simp only [List.length_set,List.length_cons] at this ⊢
   refine ⟨this.1,this.2.1,this.2.2.1,by have:=this.2.2.2;omega⟩
theorem batch_done {procs:List Proc}:∀ (k:Nat) (s:List Pr) (is:List Nat) (out:List Res),batchF fmt procs k s [] is out=(s,out)
 | 0,s,is,out=>rfl
 | k+1,s,is,out=>by rw [batchF,if_pos rfl]
structure BSt where
 k:Nat
 s:List Pr
 l:List Txn
 is:List Nat
 out:List Res
structure BOk (fmt:Int→qad) (procs:List Proc) (s0:List Pr) (L:List Txn) (x:BSt):Prop where
 lv:lvl x.k x.l
 len:x.is.length=x.l.length
 ol:x.out.length=L.length
 lt:∀ i∈x.is,i<L.length
 inn:BatchIn fmt procs x.l
 rng:rngL x.s
 sl:x.s.length+64 * (L.length * x.k)≤60000000000
 ll:x.l.length≤L.length
 eq:batchF fmt procs x.k x.s x.l x.is x.out=batchS fmt procs s0 L
def b0 (s:List Pr) (L:List Txn):BSt:=⟨3,s,L,List.range L.length,List.replicate L.length Res.z⟩
theorem b0_ok {procs:List Proc} {s:List Pr} {L:List Txn} (hB:BatchIn fmt procs L) (hs:rngL s) (hL:s.length+192 * L.length≤60000000000):BOk fmt procs s L (b0 s L) :=
 ⟨trivial,by simp [b0],by simp [b0],fun i hi=>List.mem_range.1 hi,hB,hs,by simp only [b0];omega,Nat.le_refl _,rfl⟩
def bNext (fmt:Int→qad) (procs:List Proc) (x:BSt):BSt :=
 let r:=qau fmt procs x.s x.l
 let y:=qb0 fmt procs r.1 x.l r.2 x.is (x.out,[],[])
 ⟨x.k - 1,r.1,y.2.1,y.2.2,y.1⟩
theorem retry_args {procs:List Proc} {s:List Pr} (t:Txn):(qct fmt procs s t).args=t.args:=by
 unfold qct
 split
 · rfl
 · split<;>rfl
theorem bNext_ok {procs:List Proc} {s0:List Pr} {L:List Txn} {x:BSt} (h:BOk fmt procs s0 L x) (hl:x.l≠[]):BOk fmt procs s0 L (bNext fmt procs x)∧(bNext fmt procs x).k<x.k:=by
 obtain ⟨k,s,l,is,out⟩:=x
 obtain ⟨lv,len,ol,lt,inn,rng,sl,ll,eq⟩:=h
 simp only at lv len ol lt inn rng sl ll eq hl
 cases k with
 | zero=>exact (hl lv).elim
 | succ k =>
  obtain ⟨hr,hrl,_⟩:=qcz (fmt:=fmt) (procs:=procs) (l:=l) rng inn l.length (Nat.le_refl _)
  rw [List.take_length] at hr hrl
  have hc:=round_cnt (fmt:=fmt) procs s l
  obtain ⟨h1,h2,h3,h4⟩:=tally_inv (fmt:=fmt) (procs:=procs) (s:=(qau fmt procs s l).1) l (qau fmt procs s l).2 is out [] [] hc len rfl (by rw [ol];exact lt) (by simp)
  have hlv:=lvl_next (fmt:=fmt) (procs:=procs) (s:=s) (is:=is) (out:=out) lv
  have hmul:L.length * (k+1)=L.length * k+L.length:=Nat.mul_succ _ _
  refine ⟨⟨hlv,h1,h2.trans ol,by rw [ol] at h3;exact h3,⟨inn.fmt,inn.body,?_⟩,hr,?_,?_,?_⟩,by simp [bNext]⟩
  · exact tally_next l _ is (out,[],[]) (fun t=>∀ v∈t.args,rngV v) (by simp) (fun t ht e _ _=>by rw [retry_args];exact inn.args t ht)
  ·
   simp only [bNext,Nat.add_sub_cancel]
   omega
  ·
   simp only [bNext]
   simp only [List.length_nil] at h4
   omega
  ·
   rw [← eq,batchF,if_neg hl]
   rfl
end
end Go.Cw
