/- Part 25 of a proof: CwU, CwV, CwX, CwY, CwI -/
import Derived.Test.YtcjolkgjhcdhcaaGreatDoorQ17
import Derived.Test.YtcjolkgjhcdhcaaGreatDoorQ21
import Derived.Test.YtcjolkgjhcdhcaaGreatDoorQ24
set_option linter.all false

namespace Go.Cw
open Go Go.Abs
structure Txn where
 id:Int
 proc:qag
 args:List V
 ft:Foot
 att:Int
def Txn.c (t:Txn):List AV:=[I t.id,S t.proc,.slice (t.args.map V.c),Bo t.ft.all,.slice (t.ft.reads.map qa9),.slice (t.ft.writes.map qa9),I t.att]
def findN (procs:List Proc) (name:qag):Option Proc:=procs.find? fun p=>decide (p.name=name)
def findP (procs:List Proc) (t:Txn):Option Proc :=
 match findN procs t.proc with
 | none=>none
 | some p=>if argsErr p t.args=0 then some p else none
section
variable (fmt:Int→qag)
def oneS (procs:List Proc) (s:List Pr) (t:Txn):List Pr×Eff :=
 match findP procs t with
 | none=>(s,wrongE)
 | some p=>if (runS fmt p t.args s t.ft).status=1 then (qc9 s (runS fmt p t.args s t.ft).writes,runS fmt p t.args s t.ft) else (s,runS fmt p t.args s t.ft)
def qbe (procs:List Proc) (s:List Pr) (l:List Txn):List Pr×List Eff :=
 l.foldl (fun y t=>((oneS fmt procs y.1 t).1,y.2++[(oneS fmt procs y.1 t).2])) (s,[])
end
def wroteS (e:Eff) (k:qag):Bool:=decide (e.status=1)&&hasP e.writes k
def qbm (s:List Pr) (e:Eff):List Pr:=if e.status=1∧qay s=true∧qbn e.writes=true then qc9 s e.writes else s
section
variable (fmt:Int→qag)
end
structure BatchIn (fmt:Int→qag) (procs:List Proc) (l:List Txn):Prop where
 fmt:∀ n,i64 n→qbf (fmt n)=true
 body:∀ p∈procs,∀ t∈p.body,rngS t
 args:∀ t∈l,∀ v∈t.args,rngV v
abbrev rngL (s:List Pr):Prop:=∀ q∈s,rngV q.v
section
variable {fmt:Int→qag}
theorem findP_mem {procs:List Proc} {t:Txn} {p:Proc} (h:findP procs t=some p):p∈procs∧argsErr p t.args=0:=by
 unfold findP at h
 split at h
 · cases h
 ·
  rename_i q hq
  split at h
  ·
   cases h
   exact ⟨List.mem_of_find?_eq_some hq,by assumption⟩
  · cases h
theorem run_same {p:Proc} {args:List V} {a b:List Pr} {ft:Foot} (ha:qay a=true) (hb:qay b=true) (hg:∀ k∈(runS fmt p args a ft).reads,getP a k=getP b k):runS fmt p args b ft=runS fmt p args a ft:=by
 by_cases h:runOk p args a ft
 ·
  have hr:=(qbt _ _ _ _).1 h
  have h':runOk p args b ft:=(qbt _ _ _ _).2 ⟨hr.1,hr.2.1,hb,hr.2.2.2⟩
  rw [qdd h,done_reads] at hg
  rw [qdd h,qdd h']
  exact congrArg doneS (two_blk (alike_local (cfgR fmt a ft) b) p.body (ms0 p args) hg)
 ·
  have h':¬ runOk p args b ft:=fun h'=>h (by
   have:=(qbt _ _ _ _).1 h'
   exact (qbt _ _ _ _).2 ⟨this.1,this.2.1,ha,this.2.2.2⟩)
  rw [qde h,qde h']
theorem run_commit_ok {p:Proc} {args:List V} {s:List Pr} {ft:Foot} (h:(runS fmt p args s ft).status=1):qay s=true:=by
 by_cases hr:runOk p args s ft
 · exact ((qbt _ _ _ _).1 hr).2.2.1
 · rw [qde hr] at h;simp [wrongE] at h
theorem run_rngW {p:Proc} {args:List V} {s:List Pr} {ft:Foot} (hI:RunIn fmt p args s):rngL (runS fmt p args s ft).writes:=by
 by_cases hr:runOk p args s ft
 ·
  have hr':=(qbt _ _ _ _).1 hr
  rw [qdd hr]
  rcases hx:qdb (cfgR fmt s ft) p.body (ms0 p args) with ⟨z | u,m⟩
  · intro q hq;simp [doneS] at hq
  ·
   have hi:=blkI_ok (C:=cfgR fmt s ft) (fun q hq=>hI.st q hq) p.body _ _ _ (cost_goS hr'.1 hI.body) (inv0 hI) hx
   intro q hq
   simp only [doneS,List.mem_map] at hq
   obtain ⟨k,_,rfl⟩:=hq
   simp only
   rcases hg:qci m.own k with _ | w
   · exact rng_nil
   · exact hi.rng.2 _ (kGet_mem hg)
 · rw [qde hr];intro q hq;cases hq
theorem run_lenW {p:Proc} {args:List V} {s:List Pr} {ft:Foot} (hI:RunIn fmt p args s):(runS fmt p args s ft).writes.length≤64:=by
 by_cases h1:(runS fmt p args s ft).status=1
 ·
  have h:=(run_commit hI h1).1
  have hl:(runS fmt p args s ft).writes.length=(runS fmt p args s ft).puts.length:=by rw [← h,List.length_map]
  by_cases hc:qcu p=0
  ·
   have h1:=run_bounds (ft:=ft) hI hc
   have h2:=cost_lim hc
   omega
  · rw [run_wrong hc];simp [wrongE]
 · rw [(run_else h1).1];simp
theorem rngL_apply {l w:List Pr} (hl:rngL l) (hw:rngL w) (al:qay l=true) (aw:qbn w=true):rngL (qc9 l w):=fun q hq=>by
 rcases ((applyP_spec ((qc2 l).1 al).2.2 ((qcj w).1 aw).2.2).2 q).1 hq with h | h
 · exact hl q h.1
 · exact hw q h.1
theorem addP_len:∀ (w out:List Pr),(addP out w).length≤out.length+w.length
 | [],out=>by simp [addP]
 | p::w,out=>by
  rw [addP]
  split
  · have:=addP_len w out;simp only [List.length_cons];omega
  ·
   have:=addP_len w (withP out p)
   have h:(withP out p).length=out.length+1:=by
    unfold withP
    simp only [List.length_append,List.length_take,List.length_cons,List.length_drop]
    omega
   simp only [List.length_cons];omega
theorem applyP_len (l w:List Pr):(qc9 l w).length≤l.length+w.length:=by
 have h1:=addP_len w (keepP w l)
 have h2:=(keepP_spec w l).1.length_le
 unfold qc9
 omega
structure OneOk (s:List Pr) (x:List Pr×Eff):Prop where
 rng:rngL x.1
 len:x.1.length≤s.length+64
 ok:qay s=true→qay x.1=true
 no:qay s=false→x.1=s
 get:∀ k,wroteS x.2 k=false→getP x.1 k=getP s k
 upd:x.1=qbm s x.2
 rds:x.2.reads.length≤64
 wrs:x.2.writes.length≤64
 wrng:rngL x.2.writes
 com:x.2.status=1→qay s=true∧qbn x.2.writes=true
theorem one_ok {procs:List Proc} {s:List Pr} {t:Txn} (hf:∀ n,i64 n→qbf (fmt n)=true) (hb:∀ p∈procs,∀ t∈p.body,rngS t) (ha:∀ v∈t.args,rngV v) (hs:rngL s):OneOk s (oneS fmt procs s t):=by
 unfold oneS
 split
 · exact { rng:=hs,len:=by simp,ok:=id,no:=fun _=>rfl,get:=fun _ _=>rfl,upd:=by simp [qbm,wrongE],rds:=by simp [wrongE],wrs:=by simp [wrongE],wrng:=by intro q hq;simp [wrongE] at hq,com:=fun h=>by simp [wrongE] at h }
 ·
  rename_i p hp
  have hI:RunIn fmt p t.args s:=⟨hf,hb p (findP_mem hp).1,ha,hs⟩
  have hl:(runS fmt p t.args s t.ft).reads.length≤64:=by
   by_cases hc:qcu p=0
   ·
    have h1:=run_bounds (ft:=t.ft) hI hc
    have h2:=cost_lim hc
    omega
   · rw [run_wrong hc];simp [wrongE]
  have hw:=run_lenW (ft:=t.ft) hI
  have hwr:=run_rngW (ft:=t.ft) hI
  split
  ·
   rename_i h1
   have hs1:=run_commit_ok h1
   have hw1:=(run_commit hI h1).2.2
   refine ⟨rngL_apply hs hwr hs1 hw1,?_,fun _=>applyP_ok hs1 hw1,fun h=>?_,fun k hk=>?_,?_,hl,hw,hwr,fun _=>⟨hs1,hw1⟩⟩
   · have:=applyP_len s (runS fmt p t.args s t.ft).writes;simp only;omega
   · rw [hs1] at h;cases h
   ·
    obtain ⟨w1,w2,w3⟩:=(qcj _).1 hw1
    simp only at hk ⊢
    rw [getP_apply ((qc2 s).1 hs1).2.2 w3 w1]
    simp only [wroteS,h1,decide_true,Bool.true_and] at hk
    simp [hk]
   · simp only [qbm];rw [if_pos ⟨h1,hs1,hw1⟩]
  ·
   rename_i h1
   refine ⟨hs,by simp,id,fun _=>rfl,fun _ _=>rfl,?_,hl,hw,hwr,fun h=>(h1 h).elim⟩
   simp only [qbm];rw [if_neg (fun h=>h1 h.1)]
theorem one_same {procs:List Proc} {a b:List Pr} {t:Txn} (ha:qay a=true) (hb:qay b=true) (hg:∀ k∈(oneS fmt procs a t).2.reads,getP a k=getP b k):(oneS fmt procs b t).2=(oneS fmt procs a t).2:=by
 unfold oneS at hg ⊢
 rcases hp:findP procs t with _ | p
 · rfl
 ·
  rw [hp] at hg
  have h:runS fmt p t.args b t.ft=runS fmt p t.args a t.ft:=run_same ha hb (fun k hk=>hg k (by simp only;split<;>exact hk))
  simp only [h]
  split<;>rfl
theorem round_snoc (procs:List Proc) (s:List Pr) (l:List Txn) (t:Txn):qbe fmt procs s (l++[t])=((oneS fmt procs (qbe fmt procs s l).1 t).1,(qbe fmt procs s l).2++[(oneS fmt procs (qbe fmt procs s l).1 t).2]):=by
 unfold qbe
 rw [List.foldl_append]
 rfl
structure RoundOk (s:List Pr) (n:Nat) (x:List Pr×List Eff):Prop where
 rng:rngL x.1
 len:x.1.length≤s.length+64 * n
 cnt:x.2.length=n
 ok:qay s=true→qay x.1=true
 no:qay s=false→x.1=s
 get:∀ k,(∀ e∈x.2,wroteS e k=false)→getP x.1 k=getP s k
 rds:∀ e∈x.2,e.reads.length≤64
 wrs:∀ e∈x.2,e.writes.length≤64
 wrng:∀ e∈x.2,rngL e.writes
theorem BatchIn.init {procs:List Proc} {l:List Txn} {t:Txn} (h:BatchIn fmt procs (l++[t])):BatchIn fmt procs l:=⟨h.fmt,h.body,fun x hx=>h.args x (by simp [hx])⟩
theorem BatchIn.take {procs:List Proc} {l:List Txn} (h:BatchIn fmt procs l) (n:Nat):BatchIn fmt procs (l.take n):=⟨h.fmt,h.body,fun x hx=>h.args x (List.mem_of_mem_take hx)⟩
theorem snoc_ind {α:Type} {P:List α→Prop} (h0:P []) (h1:∀ l x,P l→P (l++[x])) (l:List α):P l:=by
 have:∀ n (l:List α),l.length=n→P l:=by
  intro n
  induction n with
  | zero=>intro l hl;rw [List.eq_nil_of_length_eq_zero hl];exact h0
  | succ n ih =>
   intro l hl
   have hne:l≠[]:=by rintro rfl;cases hl
   have e:l=l.dropLast++[l.getLast hne]:=(List.dropLast_concat_getLast hne).symm
   rw [e]
   exact h1 _ _ (ih _ (by simp [hl]))
 exact this _ l rfl
theorem round_ok {procs:List Proc} {s:List Pr} (hs:rngL s):∀ (l:List Txn),BatchIn fmt procs l→RoundOk s l.length (qbe fmt procs s l):=by
 refine snoc_ind (fun _=>⟨hs,by simp [qbe],rfl,id,fun _=>rfl,fun _ _=>rfl,by simp [qbe],by simp [qbe],by simp [qbe]⟩) fun l t ih hB=>?_
 have hR:=ih hB.init
 have hO:=one_ok (fmt:=fmt) (procs:=procs) (t:=t) hB.fmt hB.body (hB.args t (by simp)) hR.rng
 rw [round_snoc]
 refine ⟨hO.rng,?_,by simp [hR.cnt],fun h=>hO.ok (hR.ok h),fun h=>?_,fun k hk=>?_,fun e he=>?_,fun e he=>?_,fun e he=>?_⟩
 · have:=hR.len;have:=hO.len;simp only [List.length_append,List.length_singleton];omega
 ·
  have h1:=hR.no h
  have:=hO.no (by rw [h1];exact h)
  exact this.trans h1
 ·
  simp only [List.mem_append,List.mem_singleton] at hk
  rw [hO.get k (hk _ (.inr rfl)),hR.get k (fun e he=>hk e (.inl he))]
 ·
  simp only [List.mem_append,List.mem_singleton] at he
  rcases he with he | rfl
  · exact hR.rds e he
  · exact hO.rds
 ·
  simp only [List.mem_append,List.mem_singleton] at he
  rcases he with he | rfl
  · exact hR.wrs e he
  · exact hO.wrs
 ·
  simp only [List.mem_append,List.mem_singleton] at he
  rcases he with he | rfl
  · exact hR.wrng e he
  · exact hO.wrng
end
end Go.Cw

namespace Go.Cw
open Go Go.Abs
def putW (q:Pr) (l:List Pr):List Pr:=if q.v.k=0 then l else q::l
def mergeP:List Pr→List Pr→List Pr
 | [],[]=>[]
 | [],q::w=>putW q (mergeP [] w)
 | p::l,[]=>p::mergeP l []
 | p::l,q::w=>if sLt p.key q.key=true then p::mergeP l (q::w) else if sLt q.key p.key=true then putW q (mergeP (p::l) w) else putW q (mergeP l w)
termination_by l w=>l.length+w.length
decreasing_by all_goals simp only [List.length_cons,List.length_nil];omega
theorem asc_cons {p:Pr} {l:List Pr}:ascS (qch (p::l))↔(∀ q∈l,sLt p.key q.key=true)∧ascS (qch l):=by
 simp [ascS,qch,List.pairwise_cons]
theorem asc_ext:∀ {l m:List Pr},ascS (qch l)→ascS (qch m)→(∀ q,q∈l↔q∈m)→l=m
 | [],[],_,_,_=>rfl
 | [],q::m,_,_,h=>by have:=(h q).2 (by simp);cases this
 | p::l,[],_,_,h=>by have:=(h p).1 (by simp);cases this
 | p::l,q::m,hl,hm,h=>by
  rw [asc_cons] at hl hm
  have e:p=q:=by
   rcases List.mem_cons.1 ((h p).1 (by simp)) with e | e
   · exact e
   ·
    rcases List.mem_cons.1 ((h q).2 (by simp)) with e' | e'
    · exact e'.symm
    ·
     have h1:=hm.1 _ e
     have h2:=hl.1 _ e'
     rw [sLt_asymm h1] at h2;cases h2
  subst e
  have:l=m:=asc_ext hl.2 hm.2 fun q=>by
   constructor
   ·
    intro hq
    rcases List.mem_cons.1 ((h q).1 (by simp [hq])) with e | e
    · subst e;have:=hl.1 _ hq;rw [qcn] at this;cases this
    · exact e
   ·
    intro hq
    rcases List.mem_cons.1 ((h q).2 (by simp [hq])) with e | e
    · subst e;have:=hm.1 _ hq;rw [qcn] at this;cases this
    · exact e
  rw [this]
theorem putW_mem {q x:Pr} {l:List Pr}:x∈putW q l↔(x=q∧x.v.k≠0)∨x∈l:=by
 unfold putW
 split
 ·
  rename_i h
  constructor
  · exact .inr
  ·
   rintro (⟨rfl,h'⟩ | h')
   · exact (h' h).elim
   · exact h'
 ·
  rename_i h
  rw [List.mem_cons]
  constructor
  ·
   rintro (rfl | h')
   · exact .inl ⟨rfl,h⟩
   · exact .inr h'
  ·
   rintro (⟨rfl,_⟩ | h')
   · exact .inl rfl
   · exact .inr h'
theorem putW_asc {q:Pr} {l:List Pr} (h:∀ x∈l,sLt q.key x.key=true) (hl:ascS (qch l)):ascS (qch (putW q l)):=by
 unfold putW
 split
 · exact hl
 · exact asc_cons.2 ⟨h,hl⟩
theorem hasP_cons (q:Pr) (w:List Pr) (k:qag):hasP (q::w) k=(decide (q.key=k)||hasP w k):=by simp [hasP,anyL]
theorem mergeP_mem (l w:List Pr):(∀ x∈mergeP l w,x∈l∨x∈w):=by
 induction l,w using mergeP.induct with
 | case1=>intro x hx;simp [mergeP] at hx
 | case2 q w ih =>
  intro x hx
  rw [mergeP,putW_mem] at hx
  rcases hx with ⟨rfl,_⟩ | hx
  · simp
  · rcases ih x hx with h | h<;>simp [h]
 | case3 p l ih =>
  intro x hx
  rw [mergeP,List.mem_cons] at hx
  rcases hx with rfl | hx
  · simp
  · rcases ih x hx with h | h<;>simp [h]
 | case4 p l q w h1 ih =>
  intro x hx
  rw [mergeP,if_pos h1,List.mem_cons] at hx
  rcases hx with rfl | hx
  · simp
  ·
   rcases ih x hx with h | h
   · simp [h]
   · exact .inr h
 | case5 p l q w h1 h2 ih =>
  intro x hx
  rw [mergeP,if_neg h1,if_pos h2,putW_mem] at hx
  rcases hx with ⟨rfl,_⟩ | hx
  · simp
  ·
   rcases ih x hx with h | h
   · exact .inl h
   · simp [h]
 | case6 p l q w h1 h2 ih =>
  intro x hx
  rw [mergeP,if_neg h1,if_neg h2,putW_mem] at hx
  rcases hx with ⟨rfl,_⟩ | hx
  · simp
  · rcases ih x hx with h | h<;>simp [h]
theorem sLt_eq {a b:qag} (h1:¬ sLt a b=true) (h2:¬ sLt b a=true):a=b:=by
 have:=sLt_tri a b
 simp only [Bool.not_eq_true] at h1 h2
 rw [h1,h2] at this
 simpa using this
theorem hasP_lt {q:qag} {w:List Pr} (h:∀ x∈w,sLt q x.key=true):hasP w q=false:=hasP_false.2 fun p hp e=>by
 have:=h p hp
 rw [e,qcn] at this;cases this
theorem mergeP_spec (l w:List Pr):ascS (qch l)→ascS (qch w)→ascS (qch (mergeP l w))∧∀ q,q∈mergeP l w↔(q∈l∧hasP w q.key=false)∨(q∈w∧q.v.k≠0):=by
 induction l,w using mergeP.induct with
 | case1=>intro _ _;simp [mergeP,qch]
 | case2 q w ih =>
  intro hl hw
  rw [asc_cons] at hw
  obtain ⟨i1,i2⟩:=ih hl hw.2
  rw [mergeP]
  refine ⟨putW_asc (fun x hx=>?_) i1,fun x=>?_⟩
  ·
   rcases mergeP_mem _ _ x hx with h | h
   · cases h
   · exact hw.1 x h
  ·
   rw [putW_mem,i2]
   simp only [List.not_mem_nil,false_and,false_or,List.mem_cons]
   grind
 | case3 p l ih =>
  intro hl hw
  rw [asc_cons] at hl
  obtain ⟨i1,i2⟩:=ih hl.2 hw
  rw [mergeP]
  refine ⟨asc_cons.2 ⟨fun x hx=>?_,i1⟩,fun x=>?_⟩
  ·
   rcases mergeP_mem _ _ x hx with h | h
   · exact hl.1 x h
   · cases h
  ·
   rw [List.mem_cons,i2]
   simp [hasP,anyL]
 | case4 p l q w h1 ih =>
  intro hl hw
  have hw0:=hw
  rw [asc_cons] at hl hw
  obtain ⟨i1,i2⟩:=ih hl.2 hw0
  have hp:∀ x∈q::w,sLt p.key x.key=true:=fun x hx=>by
   rcases List.mem_cons.1 hx with rfl | hx
   · exact h1
   · exact sLt_trans h1 (hw.1 x hx)
  rw [mergeP,if_pos h1]
  refine ⟨asc_cons.2 ⟨fun x hx=>?_,i1⟩,fun x=>?_⟩
  ·
   rcases mergeP_mem _ _ x hx with h | h
   · exact hl.1 x h
   · exact hp x h
  ·
   rw [List.mem_cons,i2,List.mem_cons (a:=x) (b:=p)]
   have:=hasP_lt hp
   constructor
   ·
    rintro (rfl | ⟨h,h'⟩ | h)
    · exact .inl ⟨.inl rfl,this⟩
    · exact .inl ⟨.inr h,h'⟩
    · exact .inr h
   ·
    rintro (⟨e | h,h'⟩ | h)
    · exact .inl e
    · exact .inr (.inl ⟨h,h'⟩)
    · exact .inr (.inr h)
 | case5 p l q w h1 h2 ih =>
  intro hl hw
  have hl0:=hl
  rw [asc_cons] at hl hw
  obtain ⟨i1,i2⟩:=ih hl0 hw.2
  have hq:∀ x∈p::l,sLt q.key x.key=true:=fun x hx=>by
   rcases List.mem_cons.1 hx with rfl | hx
   · exact h2
   · exact sLt_trans h2 (hl.1 x hx)
  rw [mergeP,if_neg h1,if_pos h2]
  refine ⟨putW_asc (fun x hx=>?_) i1,fun x=>?_⟩
  ·
   rcases mergeP_mem _ _ x hx with h | h
   · exact hq x h
   · exact hw.1 x h
  ·
   rw [putW_mem,i2,hasP_cons,List.mem_cons (a:=x) (b:=q)]
   constructor
   ·
    rintro (⟨rfl,h⟩ | ⟨h,h'⟩ | ⟨h,h'⟩)
    · exact .inr ⟨.inl rfl,h⟩
    ·
     refine .inl ⟨h,?_⟩
     have:¬ q.key=x.key:=fun e=>by have:=hq x h;rw [e,qcn] at this;cases this
     simp [this,h']
    · exact .inr ⟨.inr h,h'⟩
   ·
    rintro (⟨h,h'⟩ | ⟨rfl | h,h'⟩)
    ·
     simp only [Bool.or_eq_false_iff] at h'
     exact .inr (.inl ⟨h,h'.2⟩)
    · exact .inl ⟨rfl,h'⟩
    · exact .inr (.inr ⟨h,h'⟩)
 | case6 p l q w h1 h2 ih =>
  intro hl hw
  rw [asc_cons] at hl hw
  obtain ⟨i1,i2⟩:=ih hl.2 hw.2
  have e:=sLt_eq h1 h2
  have hq:∀ x∈l,sLt q.key x.key=true:=fun x hx=>by rw [← e];exact hl.1 x hx
  rw [mergeP,if_neg h1,if_neg h2]
  refine ⟨putW_asc (fun x hx=>?_) i1,fun x=>?_⟩
  ·
   rcases mergeP_mem _ _ x hx with h | h
   · exact hq x h
   · exact hw.1 x h
  ·
   rw [putW_mem,i2,hasP_cons,List.mem_cons,List.mem_cons]
   constructor
   ·
    rintro (⟨rfl,h⟩ | ⟨h,h'⟩ | ⟨h,h'⟩)
    · exact .inr ⟨.inl rfl,h⟩
    ·
     refine .inl ⟨.inr h,?_⟩
     have:¬ q.key=x.key:=fun e=>by have:=hq x h;rw [e,qcn] at this;cases this
     simp [this,h']
    · exact .inr ⟨.inr h,h'⟩
   ·
    rintro (⟨h | h,h'⟩ | ⟨rfl | h,h'⟩)
    ·
     subst h
     simp only [Bool.or_eq_false_iff,decide_eq_false_iff_not] at h'
     exact (h'.1 e.symm).elim
    ·
     simp only [Bool.or_eq_false_iff] at h'
     exact .inr (.inl ⟨h,h'.2⟩)
    · exact .inl ⟨rfl,h'⟩
    · exact .inr (.inr ⟨h,h'⟩)
theorem mergeP_eq {l w:List Pr} (hl:ascS (qch l)) (hw:ascS (qch w)):mergeP l w=qc9 l w:=by
 obtain ⟨a1,a2⟩:=mergeP_spec l w hl hw
 obtain ⟨b1,b2⟩:=applyP_spec hl hw
 exact asc_ext a1 b1 fun q=>by rw [a2,b2]
end Go.Cw

namespace Go.Cw
open Go Go.Abs
structure RM where
 vars:List Pr
 own:List Pr
 st:Int
 code:Int
 out:List V
 reads:List qag
 puts:List qag
 miss:qag
 steps:Int
def RM.c (C:Cfg) (m:RM):List AV:=[.slice (C.state.map Pr.c),Bo C.all,.slice (C.rd.map qa9),.slice (C.wr.map qa9),.slice (m.vars.map Pr.c),.slice (m.own.map Pr.c),I m.st,I m.code,.slice (m.out.map V.c),.slice (m.reads.map qa9),.slice (m.puts.map qa9),.slice [],S m.miss,I m.steps]
def RM.ab (m:RM) (c:Int):RM:={ m with st:=2,code:=c,out:=[] }
def RM.rst (m:RM) (k:qag):RM:={ m with st:=3,code:=0,out:=[],miss:=k }
def restP (l:List Pr) (k:qag):Nat:=if (l[posP k l]?).map Pr.key=some k then posP k l+1 else posP k l
def setR (l:List Pr) (p:Pr):List Pr:=l.take (posP p.key l)++p::l.drop (restP l p.key)
def storeR (C:Cfg) (m:RM) (k:qag) (v:V):RM :=
 if keyOk k=false then m.ab 1004
 else if C.all=false∧hasK C.wr k=false then m.rst k
 else { m with puts:=withS m.puts k,own:=setR m.own ⟨k,v⟩ }
def emitR (m:RM) (v:V):RM:=if 16≤(m.out.length:Int) then m.ab 1007 else { m with out:=m.out++[v] }
section
variable (C:Cfg)
end
end Go.Cw

namespace Go.Cw
open Go Go.Abs
theorem qdf {α:Type}:∀ (l:List (qag×α)) (s k:qag) (v:α),qci (qcv l s v) k=if s=k then some v else qci l k
 | [],s,k,v=>by simp only [qcv,qci]
 | p::l,s,k,v=>by
  rw [qcv]
  split
  ·
   rename_i h
   rw [qci,qci]
   subst h
   split<;>rfl
  ·
   rename_i h
   rw [qci,qdf l s k v,qci]
   split
   ·
    rename_i h2
    subst h2
    rw [if_neg (fun e=>h e.symm)]
   · rfl
theorem cmpL_lt:∀ (a b:List UInt8),(Go.Lib.compareBytes a b<0↔Op.bytesLess a b=true)∧(Go.Lib.compareBytes a b=0↔a=b)
 | [],[]=>by simp [Go.Lib.compareBytes,Op.bytesLess]
 | [],_::_=>by simp [Go.Lib.compareBytes,Op.bytesLess]
 | _::_,[]=>by simp [Go.Lib.compareBytes,Op.bytesLess]
 | x::a,y::b=>by
  have ih:=cmpL_lt a b
  simp only [Go.Lib.compareBytes,Op.bytesLess,List.cons.injEq]
  split
  ·
   rename_i h
   have:x≠y:=by rintro rfl;exact absurd h (by simp)
   simp [h,this]
  ·
   rename_i h
   split
   ·
    rename_i h2
    have:x≠y:=by rintro rfl;exact absurd h2 (by simp)
    simp [h,this]
   ·
    rename_i h2
    have:x=y:=by
     apply UInt8.toNat_inj.1
     have h3:¬ x.toNat<y.toNat:=h
     have h4:¬ y.toNat<x.toNat:=h2
     omega
    subst this
    simp [ih]
theorem cmpS_lt (a b:qag):(cmpS a b<0↔sLt a b=true)∧(cmpS a b=0↔a=b):=by
 have h:=cmpL_lt a.data.toList b.data.toList
 have e:∀ x:qag,x.toList=x.data.toList:=fun x=>by simp [ByteArray.toList_eq]
 refine ⟨?_,?_⟩
 ·
  unfold cmpS sLt
  rw [e,e]
  exact h.1
 ·
  unfold cmpS
  rw [h.2]
  constructor
  ·
   intro he
   have:a.data=b.data:=Array.toList_inj.1 he
   cases a;cases b;simp_all
  · rintro rfl;rfl
theorem setR_cons {p q:Pr} {l:List Pr} (h:sLt q.key p.key=true):setR (q::l) p=q::setR l p:=by
 unfold setR restP
 simp only [posP,h,if_true,List.take_succ_cons,List.getElem?_cons_succ,List.cons_append]
 split<;>simp
theorem setR_map (l:List Pr) (p:Pr) (k:qag):hasP (setR l p) k=(decide (p.key=k)||hasP l k)∧getP (setR l p) k=if p.key=k then p.v else getP l k:=by
 induction l with
 | nil=>simp [setR,restP,posP,hasP,anyL,getP]
 | cons q l ih =>
  by_cases h:sLt q.key p.key=true
  ·
   rw [setR_cons h]
   have hne:=sLt_ne h
   simp only [hasP,anyL,getP] at ih ⊢
   rw [ih.1,ih.2]
   refine ⟨?_,?_⟩
   · rw [← Bool.or_assoc,← Bool.or_assoc,Bool.or_comm (decide (q.key=k))]
   ·
    by_cases h1:q.key=k
    ·
     have:¬ p.key=k:=fun e=>hne (h1.trans e.symm)
     simp [h1,this]
    · simp [h1]
  ·
   have e0:posP p.key (q::l)=0:=by simp [posP,h]
   by_cases h1:q.key=p.key
   ·
    have:setR (q::l) p=p::l:=by simp [setR,restP,e0,h1]
    rw [this]
    simp only [hasP,anyL,getP,h1]
    refine ⟨?_,?_⟩
    · cases decide (p.key=k)<;>simp
    · split<;>rfl
   ·
    have:setR (q::l) p=p::q::l:=by simp [setR,restP,e0,h1]
    rw [this]
    simp only [hasP,anyL,getP]
    exact ⟨trivial,trivial⟩
structure Sim (s:MS) (m:RM):Prop where
 vars:∀ k,qci s.vars k=if hasP m.vars k=true then some (getP m.vars k) else none
 own:∀ k,qci s.own k=if hasK s.puts k=true then some (getP m.own k) else none
 keys:qch m.own=s.puts
 out:m.out=s.out
 reads:m.reads=s.reads
 puts:m.puts=s.puts
 steps:m.steps=s.steps
 st:m.st=0
 code:m.code=0
 miss:m.miss=em
structure Dead (z:Stop) (s:MS) (m:RM):Prop where
 reads:m.reads=s.reads
 puts:m.puts=s.puts
 steps:m.steps=s.steps
 out:m.out=[]
 st:m.st=z.status
 code:m.code=z.code
 miss:m.miss=z.miss
 ne:z.status≠0
theorem Sim.ab {s:MS} {m:RM} (h:Sim s m) (c:Int):Dead (ab c) s (m.ab c):=⟨h.reads,h.puts,h.steps,rfl,rfl,rfl,h.miss,by simp [Go.Cw.ab]⟩
theorem Sim.rst {s:MS} {m:RM} (h:Sim s m) (k:qag):Dead (rst k) s (m.rst k):=⟨h.reads,h.puts,h.steps,rfl,rfl,rfl,rfl,by simp [Go.Cw.rst]⟩
def EvSim (x:EV×MS) (y:V×RM):Prop:=match x.1 with
 | .ok v=>y.1=v∧Sim x.2 y.2
 | .error z=>y.1=V.nil∧Dead z x.2 y.2
theorem EvSim.ok {v:V} {s:MS} {m:RM} (h:Sim s m):EvSim (.ok v,s) (v,m):=⟨rfl,h⟩
theorem EvSim.ab {c:Int} {s:MS} {m:RM} (h:Sim s m):EvSim (.error (ab c),s) (V.nil,m.ab c):=⟨rfl,h.ab c⟩
section
variable {C:Cfg}
end
end Go.Cw

namespace Go.Cw
open Go Go.Abs
structure YH (P:Program) (l:Nat) (HF:Nat→qae) (HX:Nat→Ex→qae) (stop:Ex→Bool) (n0:Nat):Prop where
 len:∀ k,(HF k).length=n0
 lenX:∀ k x,(HX k x).length=n0
 und:∀ k,hUnder n0 (HF k)=true
 undX:∀ k x,hUnder n0 (HX k x)=true
 y:∀ k (x:Ex) (L:qae),AYield P l [.agg x.x] (HF k++L) fun r h'=>(stop x=true→r=.ret (Bo false)∧h'=HX k x++L)∧(stop x=false→r=.ret (Bo true)∧h'=HF (k+1)++L)
theorem YH.ext {P:Program} {l:Nat} {HF:Nat→qae} {HX:Nat→Ex→qae} {stop:Ex→Bool} {n0:Nat} (Y:YH P l HF HX stop n0) (L:qae) (hL:hUnder (n0+L.length) L=true):YH P l (fun k=>HF k++L) (fun k x=>HX k x++L) stop (n0+L.length) where
 len:=fun k=>by rw [List.length_append,Y.len]
 lenX:=fun k x=>by rw [List.length_append,Y.lenX]
 und:=fun k=>by rw [qaz,qa2 (by omega) (Y.und k),hL];rfl
 undX:=fun k x=>by rw [qaz,qa2 (by omega) (Y.undX k x),hL];rfl
 y:=fun k x L'=>by simpa [List.append_assoc] using Y.y k x (L++L')
def finY (HF:Nat→qae) (HX:Nat→Ex→qae) (r:Nat×Option Ex):qae:=match r.2 with
 | none=>HF r.1
 | some e=>HX r.1 e
def gM (ms:List (Option Nat)):qae:=ms.map fun | none=>.none | some D=>qc5 D
def dM (ms:List (Option Nat)):List Deferred:=(ms.filterMap id).reverse.map coll
def idxM:Nat→List (Option Nat)→List (Nat×Nat)
 | _,[]=>[]
 | k,none::l=>idxM (k+1) l
 | k,some D::l=>idxM (k+1) l++[(k,D)]
theorem idxM_coll:∀ (ms:List (Option Nat)) (k:Nat),(idxM k ms).map (fun p=>coll p.2)=dM ms
 | [],_=>rfl
 | none::l,k=>by simp only [idxM,idxM_coll l];rfl
 | some D::l,k=>by simp [idxM,idxM_coll l,dM]
theorem idxM_ge:∀ (ms:List (Option Nat)) (k:Nat) (p:Nat×Nat),p∈idxM k ms→k≤p.1∧p.1<k+ms.length∧(gM ms)[p.1 - k]?=some (qc5 p.2)
 | [],_,p,h=>by simp [idxM] at h
 | none::l,k,p,h=>by
  obtain ⟨h1,h2,h3⟩:=idxM_ge l (k+1) p h
  refine ⟨by omega,by simp;omega,?_⟩
  rw [show p.1 - k=(p.1 - (k+1))+1 by omega]
  exact h3
 | some D::l,k,p,h=>by
  rw [idxM,List.mem_append] at h
  rcases h with h | h
  ·
   obtain ⟨h1,h2,h3⟩:=idxM_ge l (k+1) p h
   refine ⟨by omega,by simp;omega,?_⟩
   rw [show p.1 - k=(p.1 - (k+1))+1 by omega]
   exact h3
  ·
   simp at h
   subst h
   refine ⟨by simp,by simp,?_⟩
   simp [gM]
theorem idxM_nodup:∀ (ms:List (Option Nat)) (k:Nat),((idxM k ms).map (·.1)).Nodup
 | [],_=>List.nodup_nil
 | none::l,k=>idxM_nodup l (k+1)
 | some D::l,k=>by
  rw [idxM,List.map_append,List.nodup_append]
  refine ⟨idxM_nodup l (k+1),by simp,fun a ha b hb=>?_⟩
  rw [List.mem_map] at ha
  obtain ⟨p,hp,rfl⟩:=ha
  have:=(idxM_ge l (k+1) p hp).1
  simp at hb
  omega
theorem takeA:∀ (l:List (Nat×Nat)) (A Z:qae),(∀ p,p∈l→A.length≤p.1)→∃ Z',takeAll l (A++Z)=A++Z'
 | [],A,Z,_=>⟨Z,rfl⟩
 | p::l,A,Z,h=>by
  rw [takeAll,List.set_append_right _ _ (h p (by simp))]
  exact takeA l A _ fun q hq=>h q (by simp [hq])
theorem gM_app (a b:List (Option Nat)):gM (a++b)=gM a++gM b:=by simp [gM]
theorem dM_snoc (ms:List (Option Nat)) (D:Nat):dM (ms++[none,none,some D])=coll D::dM ms:=by simp [dM,List.filterMap_append]
theorem gM_und (ms:List (Option Nat)) (m:Nat):hUnder m (gM ms)=true:=by
 rw [hUnder_iff]
 intro o ho
 simp only [gM,List.mem_map] at ho
 obtain ⟨x,_,rfl⟩:=ho
 cases x<;>rfl
section
variable {P:Program} {E:Ent} {p:Tmp} {asg body:Code}
def recA (E:Ent) (e:Env) (p:Tmp) (asg body:Code) (l D:Nat) (fn:FuncId) (st:LoopState) (pe:Option Code):AObj:=.raw l (recO st pe fn #[p] asg body D) (slots E.N e)
def roundJ (E:Ent) (idx:Nat) (r0 rb rd:AObj) (R:AEnd→qae→Prop):AExit→List Deferred→Env→Prop
 | .normal,_,e=>e.h[idx]?=some rb∧∃ h',Wk E ⟨[],e.h.set idx r0⟩ ⟨[],h'⟩∧R (.ret (.val (.bool true))) h'
 | .ret,_,e=>e.h[idx]?=some rb∧∃ h',Wk E ⟨[],e.h.set idx rd⟩ ⟨[],h'⟩∧R (.ret (.val (.bool false))) h'
 | _,_,_=>False
theorem awpI_rangeY {g:Operand} {gf:FuncId} {caps:List AV} {Q:AExit→List Deferred→Env→Prop} {ds:List Deferred} {e:Env} (hg:e.get g=.fn (.func gf) [] caps) (hcaps:∀ H,qa6 H caps=caps)
  (B:Nat→qae) (X:Nat→Ex→qae) (stop:Ex→Bool) (xs:List Ex) (k n0:Nat) (hB:e.h=B k) (len:∀ j,(B j).length=n0) (lenX:∀ j x,(X j x).length=n0) (und:∀ j,hUnder n0 (B j)=true) (undX:∀ j x,hUnder n0 (X j x)=true)
  (hsl:qav n0 (slots E.N e)=true) (hp:p<E.N)
  (hit:∀ (l:Nat) (L:qae) (HX:Nat→Ex→qae) (n1:Nat),YH P l (fun j=>B j++L) HX stop n1→ACalls P gf ([.fn (.yield l) [] []]++caps) (B k++L) fun r h'=>r=.ret (.tuple [])∧h'=finY (fun j=>B j++L) HX (scan stop xs k))
  (hround:∀ (E':Ent) (l D j:Nat) (x:Ex) (L:qae) (r0 rb rd:AObj),(∀ m,n0≤m→r0.under m=true∧rb.under m=true∧rd.under m=true)→E'.N=E.N→E'.h=B j++qc5 D::r0::L→hUnder E'.h.length E'.h=true→(AV.agg x.x).bd →
   AWpI P E' (some l) asg (thenI (fun ds e1=>ds=[]∧e1.h[n0+1]?=some r0 ∧
    AWpI P E' (some l) body (roundJ E' (n0+1) r0 rb rd fun r h' =>
     (stop x=true→r=.ret (Bo false)∧h'=X j x++qc5 D::rd::L)∧(stop x=false→r=.ret (Bo true)∧h'=B (j+1)++qc5 D::r0::L))
     [] ⟨e1.t,e1.h.set (n0+1) rb⟩) (fun _ _ _=>False)) [] ⟨(p,.agg x.x)::slotsOf 0 (slots E.N e),E'.h⟩)
  (hdone:∀ (j D:Nat) (o:AObj),scan stop xs k=(j,none)→Q .normal (coll D::ds) ⟨e.t,B j++[qc5 D,o]⟩)
  (hstop:∀ (j:Nat) (x:Ex) (D:Nat) (o:AObj),scan stop xs k=(j,some x)→Q .ret (coll D::ds) ⟨e.t,X j x++[qc5 D,o]⟩) :
  AWpI P E none (.rangeFunc g #[p] asg body) Q ds e:=by
 refine awpI_range hg fun fn D l=>?_
 have hL:∀ st pe,hUnder (n0+2) [qc5 D,recA E e p asg body l D fn st pe]=true:=fun st pe=>by
  simp only [hUnder,qc5,recA,AObj.under,qav,Bool.true_and,Bool.and_true]
  exact qbv (by omega) _ hsl
 have hnl:qa6 (e.h++[qc5 D,.raw l (recO .ready none fn #[p] asg body D) (slots E.N e)]) ([.fn (.yield l) [] []]++caps)=[.fn (.yield l) [] []]++caps:=by
  have:∀ (a b:List AV) H,qa6 H (a++b)=qa6 H a++qa6 H b:=fun a b H=>by
   induction a with
   | nil=>rfl
   | cons x a ih=>simp [qa6,ih]
  rw [this,hcaps]
  simp [qa6,AV.norm]
 rw [hnl,hB]
 have Y:YH P l (fun j=>B j++[qc5 D,recA E e p asg body l D fn .ready none]) (fun j x=>X j x++[qc5 D,recA E e p asg body l D fn .done (some .ret)]) stop (n0+2):={
  len:=fun j=>by simp [len]
  lenX:=fun j x=>by simp [lenX]
  und:=fun j=>by rw [qaz,qa2 (by omega) (und j),hL];rfl
  undX:=fun j x=>by rw [qaz,qa2 (by omega) (undX j x),hL];rfl
  y:=fun j x L=>by
   have hidx:(B j++[qc5 D,recA E e p asg body l D fn .ready none]++L)[n0+1]?=some (.raw l (recO .ready none fn #[p] asg body D) (slots E.N e)):=by
    rw [List.append_assoc,List.getElem?_append_right (by rw [len];omega),len,show n0+1 - n0=1 by omega]
    rfl
   refine ayield_of hidx (by simpa [slots] using hp) fun E' hN hh hu hbd _=>?_
   have hN':E'.N=E.N:=by rw [hN];simp [slots]
   have hh':E'.h=B j++qc5 D::recA E e p asg body l D fn .ready none::L:=by rw [hh];simp
   have hun:∀ st pe m,n0≤m→(recA E e p asg body l D fn st pe).under m=true:=fun st pe m hm=>qbv hm _ hsl
   have:=hround E' l D j x L _ (recA E e p asg body l D fn .busy none) (recA E e p asg body l D fn .done (some .ret)) (fun m hm=>⟨hun _ _ m hm,hun _ _ m hm,hun _ _ m hm⟩) hN' hh' (by rw [hh];exact hu) hbd
   have hJ:∀ R,roundJ E' (n0+1) (recA E e p asg body l D fn .ready none) (recA E e p asg body l D fn .busy none) (recA E e p asg body l D fn .done (some .ret)) R=roundI E' (n0+1) l fn #[p] asg body D (slots E.N e) R:=fun R=>by
    funext x ds e
    cases x<;>rfl
   rw [hJ,hh'] at this
   simpa [recA] using this }
 refine (hit l [qc5 D,recA E e p asg body l D fn .ready none] _ (n0+2) Y).mono ?_
 rintro r h' ⟨rfl,rfl⟩
 refine ⟨⟨_,rfl⟩,?_⟩
 rcases hsc:scan stop xs k with ⟨j,_ | x⟩
 ·
  refine ⟨.ready,none,by simp,?_,?_⟩
  ·
   simp only [finY]
   rw [List.getElem?_append_right (by rw [len,len];omega),len,len,show n0+1 - n0=1 by omega]
   rfl
  ·
   simp only [finY]
   rw [List.set_append_right _ _ (by rw [len,len];omega),len,len,show n0+1 - n0=1 by omega]
   exact hdone j D _ hsc
 ·
  refine ⟨.done,some .ret,by simp,?_,?_⟩
  ·
   simp only [finY]
   rw [List.getElem?_append_right (by rw [len,lenX];omega),len,lenX,show n0+1 - n0=1 by omega]
   rfl
  ·
   simp only [finY]
   rw [List.set_append_right _ _ (by rw [len,lenX];omega),len,lenX,show n0+1 - n0=1 by omega]
   exact awpI_ret (hstop j x D _ hsc)
end
end Go.Cw
