/- Part 26 of a proof: CwU, CwV, CwMv, CwMw, CwOc, CwMx -/
import Derived.Test.YtbimdamecieomaaGreatDoorQ25
set_option linter.all false

namespace Go.Cw
open Go Go.Abs
structure Txn where
 id:Int
 proc:qac
 args:List V
 ft:Foot
 att:Int
def Txn.c (t:Txn):List AV:=[I t.id,S t.proc,.slice (t.args.map V.c),Bo t.ft.all,.slice (t.ft.reads.map qbf),.slice (t.ft.writes.map qbf),I t.att]
def findN (procs:List Proc) (name:qac):Option Proc:=procs.find? fun p=>decide (p.name=name)
def findP (procs:List Proc) (t:Txn):Option Proc :=
 match findN procs t.proc with
 | none=>none
 | some p=>if argsErr p t.args=0 then some p else none
section
variable (fmt:Int→qac)
def oneS (procs:List Proc) (s:List Pr) (t:Txn):List Pr×Eff :=
 match findP procs t with
 | none=>(s,wrongE)
 | some p=>if (runS fmt p t.args s t.ft).status=1 then (applyP s (runS fmt p t.args s t.ft).writes,runS fmt p t.args s t.ft) else (s,runS fmt p t.args s t.ft)
def qa5 (procs:List Proc) (s:List Pr) (l:List Txn):List Pr×List Eff :=
 l.foldl (fun y t=>((oneS fmt procs y.1 t).1,y.2++[(oneS fmt procs y.1 t).2])) (s,[])
end
def wroteS (e:Eff) (k:qac):Bool:=decide (e.status=1)&&hasP e.writes k
def applyE (s:List Pr) (e:Eff):List Pr:=if e.status=1∧qa3 s=true∧qc1 e.writes=true then applyP s e.writes else s
section
variable (fmt:Int→qac)
end
structure BatchIn (fmt:Int→qac) (procs:List Proc) (l:List Txn):Prop where
 fmt:∀ n,i64 n→qbm (fmt n)=true
 body:∀ p∈procs,∀ t∈p.body,rngS t
 args:∀ t∈l,∀ v∈t.args,rngV v
abbrev rngL (s:List Pr):Prop:=∀ q∈s,rngV q.v
section
variable {fmt:Int→qac}
theorem findP_mem {procs:List Proc} {t:Txn} {p:Proc} (h:findP procs t=some p):p∈procs∧argsErr p t.args=0:=by
 unfold findP at h;split at h
 · cases h
 ·
  rename_i q hq;split at h
  ·
   cases h;exact ⟨List.mem_of_find?_eq_some hq,by assumption⟩
  · cases h
theorem run_same {p:Proc} {args:List V} {a b:List Pr} {ft:Foot} (ha:qa3 a=true) (hb:qa3 b=true) (hg:∀ k∈(runS fmt p args a ft).reads,getP a k=getP b k):runS fmt p args b ft=runS fmt p args a ft:=by
 by_cases h:runOk p args a ft
 ·
  have hr:=(qb2 _ _ _ _).1 h;have h':runOk p args b ft:=(qb2 _ _ _ _).2 ⟨hr.1,hr.2.1,hb,hr.2.2.2⟩;rw [qdt h,done_reads] at hg;rw [qdt h,qdt h'];exact congrArg doneS (two_blk (alike_local (cfgR fmt a ft) b) p.body (ms0 p args) hg)
 ·
  have h':¬ runOk p args b ft:=fun h'=>h (by
   have:=(qb2 _ _ _ _).1 h';exact (qb2 _ _ _ _).2 ⟨this.1,this.2.1,ha,this.2.2.2⟩)
  rw [qdu h,qdu h']
theorem run_commit_ok {p:Proc} {args:List V} {s:List Pr} {ft:Foot} (h:(runS fmt p args s ft).status=1):qa3 s=true:=by
 by_cases hr:runOk p args s ft
 · exact ((qb2 _ _ _ _).1 hr).2.2.1
 · rw [qdu hr] at h;simp [wrongE] at h
theorem run_rngW {p:Proc} {args:List V} {s:List Pr} {ft:Foot} (hI:RunIn fmt p args s):rngL (runS fmt p args s ft).writes:=by
 by_cases hr:runOk p args s ft
 ·
  have hr':=(qb2 _ _ _ _).1 hr;rw [qdt hr];rcases hx:qdq (cfgR fmt s ft) p.body (ms0 p args) with ⟨z | u,m⟩
  · intro q hq;simp [doneS] at hq
  ·
   have hi:=blkI_ok (C:=cfgR fmt s ft) (fun q hq=>hI.st q hq) p.body _ _ _ (cost_goS hr'.1 hI.body) (inv0 hI) hx;intro q hq;simp only [doneS,List.mem_map] at hq;obtain ⟨k,_,rfl⟩:=hq;simp only;rcases hg:qcu m.own k with _ | w
   · exact rng_nil
   · exact hi.rng.2 _ (kGet_mem hg)
 · rw [qdu hr];intro q hq;cases hq
theorem run_lenW {p:Proc} {args:List V} {s:List Pr} {ft:Foot} (hI:RunIn fmt p args s):(runS fmt p args s ft).writes.length≤64:=by
 by_cases h1:(runS fmt p args s ft).status=1
 ·
  have h:=(run_commit hI h1).1;have hl:(runS fmt p args s ft).writes.length=(runS fmt p args s ft).puts.length:=by rw [← h,List.length_map]
  by_cases hc:qc7 p=0
  ·
   have h1:=run_bounds (ft:=ft) hI hc;have h2:=cost_lim hc;omega
  · rw [run_wrong hc];simp [wrongE]
 · rw [(run_else h1).1];simp
theorem rngL_apply {l w:List Pr} (hl:rngL l) (hw:rngL w) (al:qa3 l=true) (aw:qc1 w=true):rngL (applyP l w):=fun q hq=>by
 rcases ((applyP_spec ((qcb l).1 al).2.2 ((qcv w).1 aw).2.2).2 q).1 hq with h | h
 · exact hl q h.1
 · exact hw q h.1
theorem addP_len:∀ (w out:List Pr),(addP out w).length≤out.length+w.length
 | [],out=>by simp [addP]
 | p::w,out=>by
  rw [addP];split
  · have:=addP_len w out;simp only [List.length_cons];omega
  ·
   have:=addP_len w (withP out p);have h:(withP out p).length=out.length+1:=by
    unfold withP;simp only [List.length_append,List.length_take,List.length_cons,List.length_drop];omega
   simp only [List.length_cons];omega
theorem applyP_len (l w:List Pr):(applyP l w).length≤l.length+w.length:=by
 have h1:=addP_len w (keepP w l);have h2:=(keepP_spec w l).1.length_le;unfold applyP;omega
structure OneOk (s:List Pr) (x:List Pr×Eff):Prop where
 rng:rngL x.1
 len:x.1.length≤s.length+64
 ok:qa3 s=true→qa3 x.1=true
 no:qa3 s=false→x.1=s
 get:∀ k,wroteS x.2 k=false→getP x.1 k=getP s k
 upd:x.1=applyE s x.2
 rds:x.2.reads.length≤64
 wrs:x.2.writes.length≤64
 wrng:rngL x.2.writes
 com:x.2.status=1→qa3 s=true∧qc1 x.2.writes=true
theorem one_ok {procs:List Proc} {s:List Pr} {t:Txn} (hf:∀ n,i64 n→qbm (fmt n)=true) (hb:∀ p∈procs,∀ t∈p.body,rngS t) (ha:∀ v∈t.args,rngV v) (hs:rngL s):OneOk s (oneS fmt procs s t):=by
 unfold oneS;split
 · exact { rng:=hs,len:=by simp,ok:=id,no:=fun _=>rfl,get:=fun _ _=>rfl,upd:=by simp [applyE,wrongE],rds:=by simp [wrongE],wrs:=by simp [wrongE],wrng:=by intro q hq;simp [wrongE] at hq,com:=fun h=>by simp [wrongE] at h }
 ·
  rename_i p hp;have hI:RunIn fmt p t.args s:=⟨hf,hb p (findP_mem hp).1,ha,hs⟩
  have hl:(runS fmt p t.args s t.ft).reads.length≤64:=by
   by_cases hc:qc7 p=0
   ·
    have h1:=run_bounds (ft:=t.ft) hI hc;have h2:=cost_lim hc;omega
   · rw [run_wrong hc];simp [wrongE]
  have hw:=run_lenW (ft:=t.ft) hI;have hwr:=run_rngW (ft:=t.ft) hI;split
  ·
   rename_i h1;have hs1:=run_commit_ok h1;have hw1:=(run_commit hI h1).2.2;refine ⟨rngL_apply hs hwr hs1 hw1,?_,fun _=>applyP_ok hs1 hw1,fun h=>?_,fun k hk=>?_,?_,hl,hw,hwr,fun _=>⟨hs1,hw1⟩⟩
   · have:=applyP_len s (runS fmt p t.args s t.ft).writes;simp only;omega
   · rw [hs1] at h;cases h
   ·
    obtain ⟨w1,w2,w3⟩:=(qcv _).1 hw1;simp only at hk ⊢;rw [getP_apply ((qcb s).1 hs1).2.2 w3 w1];simp only [wroteS,h1,decide_true,Bool.true_and] at hk;simp [hk]
   · simp only [applyE];rw [if_pos ⟨h1,hs1,hw1⟩]
  ·
   rename_i h1;refine ⟨hs,by simp,id,fun _=>rfl,fun _ _=>rfl,?_,hl,hw,hwr,fun h=>(h1 h).elim⟩;simp only [applyE];rw [if_neg (fun h=>h1 h.1)]
theorem one_same {procs:List Proc} {a b:List Pr} {t:Txn} (ha:qa3 a=true) (hb:qa3 b=true) (hg:∀ k∈(oneS fmt procs a t).2.reads,getP a k=getP b k):(oneS fmt procs b t).2=(oneS fmt procs a t).2:=by
 unfold oneS at hg ⊢;rcases hp:findP procs t with _ | p
 · rfl
 ·
  rw [hp] at hg;have h:runS fmt p t.args b t.ft=runS fmt p t.args a t.ft:=run_same ha hb (fun k hk=>hg k (by simp only;split<;>exact hk));simp only [h];split<;>rfl
theorem round_snoc (procs:List Proc) (s:List Pr) (l:List Txn) (t:Txn):qa5 fmt procs s (l++[t])=((oneS fmt procs (qa5 fmt procs s l).1 t).1,(qa5 fmt procs s l).2++[(oneS fmt procs (qa5 fmt procs s l).1 t).2]):=by
 unfold qa5;rw [List.foldl_append];rfl
structure RoundOk (s:List Pr) (n:Nat) (x:List Pr×List Eff):Prop where
 rng:rngL x.1
 len:x.1.length≤s.length+64 * n
 cnt:x.2.length=n
 ok:qa3 s=true→qa3 x.1=true
 no:qa3 s=false→x.1=s
 get:∀ k,(∀ e∈x.2,wroteS e k=false)→getP x.1 k=getP s k
 rds:∀ e∈x.2,e.reads.length≤64
 wrs:∀ e∈x.2,e.writes.length≤64
 wrng:∀ e∈x.2,rngL e.writes
theorem BatchIn.init {procs:List Proc} {l:List Txn} {t:Txn} (h:BatchIn fmt procs (l++[t])):BatchIn fmt procs l:=⟨h.fmt,h.body,fun x hx=>h.args x (by simp [hx])⟩
theorem BatchIn.take {procs:List Proc} {l:List Txn} (h:BatchIn fmt procs l) (n:Nat):BatchIn fmt procs (l.take n):=⟨h.fmt,h.body,fun x hx=>h.args x (List.mem_of_mem_take hx)⟩
theorem snoc_ind {α:Type} {P:List α→Prop} (h0:P []) (h1:∀ l x,P l→P (l++[x])) (l:List α):P l:=by
 have:∀ n (l:List α),l.length=n→P l:=by
  intro n
  induction n with
  | zero=>intro l hl;rw [List.eq_nil_of_length_eq_zero hl];exact h0
  | succ n ih =>
   intro l hl;have hne:l≠[]:=by rintro rfl;cases hl
   have e:l=l.dropLast++[l.getLast hne]:=(List.dropLast_concat_getLast hne).symm;rw [e];exact h1 _ _ (ih _ (by simp [hl]))
 exact this _ l rfl
theorem round_ok {procs:List Proc} {s:List Pr} (hs:rngL s):∀ (l:List Txn),BatchIn fmt procs l→RoundOk s l.length (qa5 fmt procs s l):=by
 refine snoc_ind (fun _=>⟨hs,by simp [qa5],rfl,id,fun _=>rfl,fun _ _=>rfl,by simp [qa5],by simp [qa5],by simp [qa5]⟩) fun l t ih hB=>?_;have hR:=ih hB.init;have hO:=one_ok (fmt:=fmt) (procs:=procs) (t:=t) hB.fmt hB.body (hB.args t (by simp)) hR.rng;rw [round_snoc];refine ⟨hO.rng,?_,by simp [hR.cnt],fun h=>hO.ok (hR.ok h),fun h=>?_,fun k hk=>?_,fun e he=>?_,fun e he=>?_,fun e he=>?_⟩
 · have:=hR.len;have:=hO.len;simp only [List.length_append,List.length_singleton];omega
 ·
  have h1:=hR.no h;have:=hO.no (by rw [h1];exact h);exact this.trans h1
 ·
  simp only [List.mem_append,List.mem_singleton] at hk;rw [hO.get k (hk _ (.inr rfl)),hR.get k (fun e he=>hk e (.inl he))]
 ·
  simp only [List.mem_append,List.mem_singleton] at he;rcases he with he | rfl
  · exact hR.rds e he
  · exact hO.rds
 ·
  simp only [List.mem_append,List.mem_singleton] at he;rcases he with he | rfl
  · exact hR.wrs e he
  · exact hO.wrs
 ·
  simp only [List.mem_append,List.mem_singleton] at he;rcases he with he | rfl
  · exact hR.wrng e he
  · exact hO.wrng
end
end Go.Cw

namespace Go.Cw
open Go Go.Abs
def putW (q:Pr) (l:List Pr):List Pr:=if q.v.k=0 then l else q::l
def mergeP:List Pr→List Pr→List Pr
 | [],[]=>[]
 | [],q::w=>putW q (mergeP [] w)
 | p::l,[]=>p::mergeP l []
 | p::l,q::w=>if sLt p.key q.key=true then p::mergeP l (q::w) else if sLt q.key p.key=true then putW q (mergeP (p::l) w) else putW q (mergeP l w)
termination_by l w=>l.length+w.length
decreasing_by all_goals simp only [List.length_cons,List.length_nil];omega
theorem asc_cons {p:Pr} {l:List Pr}:qb7 (qco (p::l))↔(∀ q∈l,sLt p.key q.key=true)∧qb7 (qco l):=by
 simp [qb7,qco,List.pairwise_cons]
theorem asc_ext:∀ {l m:List Pr},qb7 (qco l)→qb7 (qco m)→(∀ q,q∈l↔q∈m)→l=m
 | [],[],_,_,_=>rfl
 | [],q::m,_,_,h=>by have:=(h q).2 (by simp);cases this
 | p::l,[],_,_,h=>by have:=(h p).1 (by simp);cases this
 | p::l,q::m,hl,hm,h=>by
  rw [asc_cons] at hl hm;have e:p=q:=by
   rcases List.mem_cons.1 ((h p).1 (by simp)) with e | e
   · exact e
   ·
    rcases List.mem_cons.1 ((h q).2 (by simp)) with e' | e'
    · exact e'.symm
    ·
     have h1:=hm.1 _ e;have h2:=hl.1 _ e';rw [sLt_asymm h1] at h2;cases h2
  subst e;have:l=m:=asc_ext hl.2 hm.2 fun q=>by
   constructor
   ·
    intro hq;rcases List.mem_cons.1 ((h q).1 (by simp [hq])) with e | e
    · subst e;have:=hl.1 _ hq;rw [qc2] at this;cases this
    · exact e
   ·
    intro hq;rcases List.mem_cons.1 ((h q).2 (by simp [hq])) with e | e
    · subst e;have:=hm.1 _ hq;rw [qc2] at this;cases this
    · exact e
  rw [this]
theorem putW_mem {q x:Pr} {l:List Pr}:x∈putW q l↔(x=q∧x.v.k≠0)∨x∈l:=by
 unfold putW;split
 ·
  rename_i h;constructor
  · exact .inr
  ·
   rintro (⟨rfl,h'⟩ | h')
   · exact (h' h).elim
   · exact h'
 ·
  rename_i h;rw [List.mem_cons];constructor
  ·
   rintro (rfl | h')
   · exact .inl ⟨rfl,h⟩
   · exact .inr h'
  ·
   rintro (⟨rfl,_⟩ | h')
   · exact .inl rfl
   · exact .inr h'
theorem putW_asc {q:Pr} {l:List Pr} (h:∀ x∈l,sLt q.key x.key=true) (hl:qb7 (qco l)):qb7 (qco (putW q l)):=by
 unfold putW;split
 · exact hl
 · exact asc_cons.2 ⟨h,hl⟩
theorem hasP_cons (q:Pr) (w:List Pr) (k:qac):hasP (q::w) k=(decide (q.key=k)||hasP w k):=by simp [hasP,anyL]
theorem mergeP_mem (l w:List Pr):(∀ x∈mergeP l w,x∈l∨x∈w):=by
 induction l,w using mergeP.induct with
 | case1=>intro x hx;simp [mergeP] at hx
 | case2 q w ih =>
  intro x hx;rw [mergeP,putW_mem] at hx;rcases hx with ⟨rfl,_⟩ | hx
  · simp
  · rcases ih x hx with h | h<;>simp [h]
 | case3 p l ih =>
  intro x hx;rw [mergeP,List.mem_cons] at hx;rcases hx with rfl | hx
  · simp
  · rcases ih x hx with h | h<;>simp [h]
 | case4 p l q w h1 ih =>
  intro x hx;rw [mergeP,if_pos h1,List.mem_cons] at hx;rcases hx with rfl | hx
  · simp
  ·
   rcases ih x hx with h | h
   · simp [h]
   · exact .inr h
 | case5 p l q w h1 h2 ih =>
  intro x hx;rw [mergeP,if_neg h1,if_pos h2,putW_mem] at hx;rcases hx with ⟨rfl,_⟩ | hx
  · simp
  ·
   rcases ih x hx with h | h
   · exact .inl h
   · simp [h]
 | case6 p l q w h1 h2 ih =>
  intro x hx;rw [mergeP,if_neg h1,if_neg h2,putW_mem] at hx;rcases hx with ⟨rfl,_⟩ | hx
  · simp
  · rcases ih x hx with h | h<;>simp [h]
theorem sLt_eq {a b:qac} (h1:¬ sLt a b=true) (h2:¬ sLt b a=true):a=b:=by
 have:=sLt_tri a b;simp only [Bool.not_eq_true] at h1 h2;rw [h1,h2] at this;simpa using this
theorem hasP_lt {q:qac} {w:List Pr} (h:∀ x∈w,sLt q x.key=true):hasP w q=false:=hasP_false.2 fun p hp e=>by
 have:=h p hp;rw [e,qc2] at this;cases this
theorem mergeP_spec (l w:List Pr):qb7 (qco l)→qb7 (qco w)→qb7 (qco (mergeP l w))∧∀ q,q∈mergeP l w↔(q∈l∧hasP w q.key=false)∨(q∈w∧q.v.k≠0):=by
 induction l,w using mergeP.induct with
 | case1=>intro _ _;simp [mergeP,qco]
 | case2 q w ih =>
  intro hl hw;rw [asc_cons] at hw;obtain ⟨i1,i2⟩:=ih hl hw.2;rw [mergeP];refine ⟨putW_asc (fun x hx=>?_) i1,fun x=>?_⟩
  ·
   rcases mergeP_mem _ _ x hx with h | h
   · cases h
   · exact hw.1 x h
  ·
   rw [putW_mem,i2];simp only [List.not_mem_nil,false_and,false_or,List.mem_cons];grind
 | case3 p l ih =>
  intro hl hw;rw [asc_cons] at hl;obtain ⟨i1,i2⟩:=ih hl.2 hw;rw [mergeP];refine ⟨asc_cons.2 ⟨fun x hx=>?_,i1⟩,fun x=>?_⟩
  ·
   rcases mergeP_mem _ _ x hx with h | h
   · exact hl.1 x h
   · cases h
  ·
   rw [List.mem_cons,i2];simp [hasP,anyL]
 | case4 p l q w h1 ih =>
  intro hl hw;have hw0:=hw;rw [asc_cons] at hl hw;obtain ⟨i1,i2⟩:=ih hl.2 hw0;have hp:∀ x∈q::w,sLt p.key x.key=true:=fun x hx=>by
   rcases List.mem_cons.1 hx with rfl | hx
   · exact h1
   · exact qc9 h1 (hw.1 x hx)
  rw [mergeP,if_pos h1];refine ⟨asc_cons.2 ⟨fun x hx=>?_,i1⟩,fun x=>?_⟩
  ·
   rcases mergeP_mem _ _ x hx with h | h
   · exact hl.1 x h
   · exact hp x h
  ·
   rw [List.mem_cons,i2,List.mem_cons (a:=x) (b:=p)];have:=hasP_lt hp;constructor
   ·
    rintro (rfl | ⟨h,h'⟩ | h)
    · exact .inl ⟨.inl rfl,this⟩
    · exact .inl ⟨.inr h,h'⟩
    · exact .inr h
   ·
    rintro (⟨e | h,h'⟩ | h)
    · exact .inl e
    · exact .inr (.inl ⟨h,h'⟩)
    · exact .inr (.inr h)
 | case5 p l q w h1 h2 ih =>
  intro hl hw;have hl0:=hl;rw [asc_cons] at hl hw;obtain ⟨i1,i2⟩:=ih hl0 hw.2;have hq:∀ x∈p::l,sLt q.key x.key=true:=fun x hx=>by
   rcases List.mem_cons.1 hx with rfl | hx
   · exact h2
   · exact qc9 h2 (hl.1 x hx)
  rw [mergeP,if_neg h1,if_pos h2];refine ⟨putW_asc (fun x hx=>?_) i1,fun x=>?_⟩
  ·
   rcases mergeP_mem _ _ x hx with h | h
   · exact hq x h
   · exact hw.1 x h
  ·
   rw [putW_mem,i2,hasP_cons,List.mem_cons (a:=x) (b:=q)];constructor
   ·
    rintro (⟨rfl,h⟩ | ⟨h,h'⟩ | ⟨h,h'⟩)
    · exact .inr ⟨.inl rfl,h⟩
    ·
     refine .inl ⟨h,?_⟩;have:¬ q.key=x.key:=fun e=>by have:=hq x h;rw [e,qc2] at this;cases this
     simp [this,h']
    · exact .inr ⟨.inr h,h'⟩
   ·
    rintro (⟨h,h'⟩ | ⟨rfl | h,h'⟩)
    ·
     simp only [Bool.or_eq_false_iff] at h';exact .inr (.inl ⟨h,h'.2⟩)
    · exact .inl ⟨rfl,h'⟩
    · exact .inr (.inr ⟨h,h'⟩)
 | case6 p l q w h1 h2 ih =>
  intro hl hw;rw [asc_cons] at hl hw;obtain ⟨i1,i2⟩:=ih hl.2 hw.2;have e:=sLt_eq h1 h2;have hq:∀ x∈l,sLt q.key x.key=true:=fun x hx=>by rw [← e];exact hl.1 x hx
  rw [mergeP,if_neg h1,if_neg h2];refine ⟨putW_asc (fun x hx=>?_) i1,fun x=>?_⟩
  ·
   rcases mergeP_mem _ _ x hx with h | h
   · exact hq x h
   · exact hw.1 x h
  ·
   rw [putW_mem,i2,hasP_cons,List.mem_cons,List.mem_cons];constructor
   ·
    rintro (⟨rfl,h⟩ | ⟨h,h'⟩ | ⟨h,h'⟩)
    · exact .inr ⟨.inl rfl,h⟩
    ·
     refine .inl ⟨.inr h,?_⟩;have:¬ q.key=x.key:=fun e=>by have:=hq x h;rw [e,qc2] at this;cases this
     simp [this,h']
    · exact .inr ⟨.inr h,h'⟩
   ·
    rintro (⟨h | h,h'⟩ | ⟨rfl | h,h'⟩)
    ·
     subst h;simp only [Bool.or_eq_false_iff,decide_eq_false_iff_not] at h';exact (h'.1 e.symm).elim
    ·
     simp only [Bool.or_eq_false_iff] at h';exact .inr (.inl ⟨h,h'.2⟩)
    · exact .inl ⟨rfl,h'⟩
    · exact .inr (.inr ⟨h,h'⟩)
theorem mergeP_eq {l w:List Pr} (hl:qb7 (qco l)) (hw:qb7 (qco w)):mergeP l w=applyP l w:=by
 obtain ⟨a1,a2⟩:=mergeP_spec l w hl hw;obtain ⟨b1,b2⟩:=applyP_spec hl hw;exact asc_ext a1 b1 fun q=>by rw [a2,b2]
end Go.Cw

namespace Go.Cw
open Go Go.Abs
def effF (f:Foot):Foot:=if qbi f.all f.reads f.writes=true then f else ⟨true,[],[]⟩
def depS (a b:Foot):Bool:=if b.all=true then true else if a.all=true then decide (0<b.reads.length) else a.writes.any fun k=>qc8 b.reads k
def depsOf (l:List Foot) (j:Nat) (f:Foot):List Nat:=(List.range j).filter fun i=>match l[i]? with | some g=>depS (effF g) (effF f) | none=>false
section
variable {fmt:Int→qac}
theorem applyE_get {s:List Pr} {e:Eff} (hs:qa3 s=true) (he:e.status=1→qc1 e.writes=true) (k:qac):getP (applyE s e) k=if wroteS e k=true then getP e.writes k else getP s k:=by
 unfold applyE wroteS;by_cases h:e.status=1
 ·
  have hw:=he h;rw [if_pos ⟨h,hs,hw⟩];obtain ⟨w1,w2,w3⟩:=(qcv _).1 hw;rw [getP_apply ((qcb s).1 hs).2.2 w3 w1];simp [h]
 ·
  rw [if_neg (fun g=>h g.1)];simp [h]
def serSt (fmt:Int→qac) (procs:List Proc) (s:List Pr) (l:List Txn) (i:Nat):List Pr:=(qa5 fmt procs s (l.take i)).1
def serEf (fmt:Int→qac) (procs:List Proc) (s:List Pr) (l:List Txn) (i:Nat) (t:Txn):Eff:=(oneS fmt procs (serSt fmt procs s l i) t).2
theorem ser_succ {procs:List Proc} {s:List Pr} {l:List Txn} {i:Nat} (h:i<l.length):serSt fmt procs s l (i+1)=(oneS fmt procs (serSt fmt procs s l i) l[i]).1:=by
 unfold serSt;rw [List.take_succ_eq_append_getElem h,round_snoc]
theorem roundS_len {procs:List Proc} {s:List Pr}:∀ (l:List Txn),(qa5 fmt procs s l).2.length=l.length :=
 snoc_ind (by rfl) fun l t ih=>by rw [round_snoc];simp [ih]
theorem ser_effs {procs:List Proc} {s:List Pr}:∀ (l:List Txn) (i:Nat) (h:i<l.length),(qa5 fmt procs s l).2[i]?=some (serEf fmt procs s l i l[i]):=by
 refine snoc_ind (fun i h=>by simp at h) fun l t ih i h=>?_;rw [round_snoc];by_cases hi:i<l.length
 ·
  have:(qa5 fmt procs s l).2[i]?=some (serEf fmt procs s l i l[i]):=ih i hi;rw [List.getElem?_append_left (by rw [roundS_len];exact hi),this];unfold serEf serSt;rw [List.getElem_append_left hi,List.take_append_of_le_length (by omega)]
 ·
  have e:i=l.length:=by simp at h;omega
  subst e;have hl:=roundS_len (fmt:=fmt) (procs:=procs) (s:=s) l;rw [List.getElem?_append_right (by omega),hl];simp [serEf,serSt]
structure MvIn (fmt:Int→qac) (procs:List Proc) (s:List Pr) (l:List Txn) (effs:List Eff) (done:List Bool):Prop where
 le:effs.length=l.length
 ld:done.length=l.length
 ok:∀ i (h:i<l.length),done.getD i false=true→effs[i]?=some (serEf fmt procs s l i l[i])
section
variable {procs:List Proc} {s:List Pr} {l:List Txn} {effs:List Eff} {done:List Bool}
theorem ser_one (hB:BatchIn fmt procs l) (hs:rngL s) {i:Nat} (h:i<l.length):OneOk (serSt fmt procs s l i) (oneS fmt procs (serSt fmt procs s l i) l[i]) :=
 one_ok hB.fmt hB.body (hB.args _ (List.getElem_mem h)) (round_ok hs _ (hB.take i)).rng
theorem ser_ok (hB:BatchIn fmt procs l) (hs:rngL s) (h0:qa3 s=true) (i:Nat):qa3 (serSt fmt procs s l i)=true:=(round_ok hs _ (hB.take i)).ok h0
theorem ser_no (hB:BatchIn fmt procs l) (hs:rngL s) (h0:qa3 s=false) (i:Nat):serSt fmt procs s l i=s:=(round_ok hs _ (hB.take i)).no h0
theorem one_foot_reads {t:Txn} {k:qac} (h:k∈(oneS fmt procs s t).2.reads):qbi t.ft.all t.ft.reads t.ft.writes=true∧(t.ft.all=true∨qc8 t.ft.reads k=true):=by
 unfold oneS at h;split at h
 · cases h
 ·
  rename_i p hp;have h:k∈(runS fmt p t.args s t.ft).reads:=by split at h<;>exact h
  refine ⟨?_,(run_reads h).2.2⟩;by_cases hr:runOk p t.args s t.ft
  · exact ((qb2 _ _ _ _).1 hr).2.2.2
  · rw [qdu hr] at h;cases h
theorem one_foot_writes {t:Txn} {k:qac} (hB:BatchIn fmt procs [t]) (hs:rngL s) (h:wroteS (oneS fmt procs s t).2 k=true):qbi t.ft.all t.ft.reads t.ft.writes=true∧(t.ft.all=true∨qc8 t.ft.writes k=true):=by
 unfold oneS at h;split at h
 · simp [wroteS,wrongE] at h
 ·
  rename_i p hp;have h:wroteS (runS fmt p t.args s t.ft) k=true:=by split at h<;>exact h
  unfold wroteS at h;simp only [Bool.and_eq_true,decide_eq_true_eq] at h;have hI:RunIn fmt p t.args s:=⟨hB.fmt,hB.body p (findP_mem hp).1,hB.args t (by simp),hs⟩
  have hc:=(run_commit (ft:=t.ft) hI h.1).1;have hk:k∈(runS fmt p t.args s t.ft).puts:=by rw [← hc];exact hasP_iff.1 h.2
  refine ⟨?_,(run_puts hk).2⟩;by_cases hr:runOk p t.args s t.ft
  · exact ((qb2 _ _ _ _).1 hr).2.2.2
  · rw [qdu hr] at h;simp [wrongE] at h
end
end
end Go.Cw

namespace Go.Cw
open Go Go.Abs
theorem nodup_sub:∀ (l m:List Nat),l.Nodup→(∀ x∈l,x∈m)→l.length≤m.length
 | [],m,_,_=>by simp
 | x::l,m,hd,h=>by
  have hx:=h x (by simp);have hd':=List.nodup_cons.1 hd;have h1:=nodup_sub l (m.erase x) hd'.2 (fun y hy=>(List.mem_erase_of_ne (by rintro rfl;exact hd'.1 hy)).2 (h y (by simp [hy])));rw [List.length_erase_of_mem hx] at h1;have h2:0<m.length:=List.length_pos_of_mem hx;simp only [List.length_cons];omega
theorem nodup_len (n:Nat) (l:List Nat) (hd:l.Nodup) (h:∀ x∈l,x<n):l.length≤n:=by
 have:=nodup_sub l (List.range n) hd (fun x hx=>List.mem_range.2 (h x hx));simpa using this
theorem least {P:Nat→Prop} (h:∃ n,P n):∃ n,P n∧∀ i,i<n→¬ P i:=by
 obtain ⟨n,hn⟩:=h
 induction n using Nat.strongRecOn with
 | ind n ih =>
  by_cases hc:∃ i,i<n∧P i
  ·
   obtain ⟨i,hi,hp⟩:=hc;exact ih i hi hp
  · exact ⟨n,hn,fun i hi hp=>hc ⟨i,hi,hp⟩⟩
theorem nodup_all {n:Nat} {l:List Nat} (hd:l.Nodup) (h:∀ x∈l,x<n) (hl:l.length=n):∀ j,j<n→j∈l:=fun j hj=>by
 by_cases hm:j∈l
 · exact hm
 ·
  have h1:=nodup_len n (j::l) (List.nodup_cons.2 ⟨hm,hd⟩) (fun x hx=>by
   rcases List.mem_cons.1 hx with rfl | hx
   · exact hj
   · exact h x hx)
  simp at h1;omega
def zeroE:Eff:=⟨0,0,[],[],[],[],em,0⟩
def depsL (fs:List Foot) (j:Nat):List Nat:=match fs[j]? with | some f=>depsOf fs j f | none=>[]
def choiceS (choices:List Int) (step n:Nat):Nat:=match choices[step]? with | some c=>if c<0 then 0 else (c.toNat % n) | none=>0
section
variable (fmt:Int→qac)
end
structure MvJ (fmt:Int→qac) (procs:List Proc) (s:List Pr) (l:List Txn) (n:Nat) (x:List Eff×List Bool×List Nat):Prop where
 inv:MvIn fmt procs s l x.1 x.2.1
 len:x.2.2.length=n
 nod:x.2.2.Nodup
 mem:∀ j,x.2.1.getD j false=true↔j∈x.2.2
 lt:∀ j∈x.2.2,j<l.length
 dep:∀ a (h:a<x.2.2.length),∀ i∈depsL (l.map (·.ft)) x.2.2[a],i∈x.2.2.take a
section
variable {fmt:Int→qac} {procs:List Proc} {s:List Pr} {l:List Txn} {choices:List Int}
theorem choice_lt {step n:Nat} (h:0<n):choiceS choices step n<n:=by
 unfold choiceS;split
 ·
  split
  · exact h
  · exact Nat.mod_lt _ h
 · exact h
end
end Go.Cw

namespace Go.Cw
open Go Go.Abs
def meetS (a b:List qac):Bool:=a.any fun k=>qc8 b k
def qci (a b:Foot):Bool :=
 if qbi a.all a.reads a.writes=false∨qbi b.all b.reads b.writes=false∨a.all=true∨b.all=true then true
 else meetS a.writes b.writes||(meetS a.writes b.reads||meetS a.reads b.writes)
section
variable {fmt:Int→qac} {procs:List Proc} {s:List Pr}
end
end Go.Cw

namespace Go.Cw
open Go Go.Abs
theorem footOk_top:qbi true [] []=true:=by simp [qbi]
theorem effF_ok (f:Foot):qbi (effF f).all (effF f).reads (effF f).writes=true:=by
 unfold effF;split
 · assumption
 · exact footOk_top
theorem conflS_eff (a b:Foot):qci (effF a) (effF b)=qci a b:=by
 unfold qci;have h1:=effF_ok a;have h2:=effF_ok b;by_cases ha:qbi a.all a.reads a.writes=true
 ·
  have ea:effF a=a:=by unfold effF;rw [if_pos ha]
  by_cases hb:qbi b.all b.reads b.writes=true
  ·
   have eb:effF b=b:=by unfold effF;rw [if_pos hb]
   rw [ea,eb]
  ·
   have eb:effF b=⟨true,[],[]⟩:=by unfold effF;rw [if_neg hb]
   rw [eb,if_pos (by simp),if_pos (by simp [hb])]
 ·
  have ea:effF a=⟨true,[],[]⟩:=by unfold effF;rw [if_neg ha]
  rw [ea,if_pos (by simp),if_pos (by simp [ha])]
theorem nodup_subG {α:Type} [DecidableEq α]:∀ (l m:List α),l.Nodup→(∀ x∈l,x∈m)→l.length≤m.length
 | [],m,_,_=>by simp
 | x::l,m,hd,h=>by
  have hx:=h x (by simp);have hd':=List.nodup_cons.1 hd;have h1:=nodup_subG l (m.erase x) hd'.2 (fun y hy=>(List.mem_erase_of_ne (by rintro rfl;exact hd'.1 hy)).2 (h y (by simp [hy])));rw [List.length_erase_of_mem hx] at h1;have h2:0<m.length:=List.length_pos_of_mem hx;simp only [List.length_cons];omega
def upP (n:Nat):List (Nat×Nat):=(List.range n).flatMap fun j=>(List.range j).map fun i=>(i,j)
def loP (n m:Nat):List (Nat×Nat):=(List.range m).flatMap fun a=>(List.range' (a+1) (n - (a+1))).map fun b=>(a,b)
theorem upP_succ (n:Nat):upP (n+1)=upP n++(List.range n).map fun i=>(i,n):=by simp [upP,List.range_succ]
theorem loP_succ (n m:Nat):loP n (m+1)=loP n m++(List.range' (m+1) (n - (m+1))).map fun b=>(m,b):=by simp [loP,List.range_succ]
theorem mem_upP {n:Nat} {p:Nat×Nat}:p∈upP n↔p.1<p.2∧p.2<n:=by
 obtain ⟨i,j⟩:=p;simp only [upP,List.mem_flatMap,List.mem_range,List.mem_map,Prod.mk.injEq];constructor
 · rintro ⟨a,ha,b,hb,rfl,rfl⟩;exact ⟨hb,ha⟩
 · rintro ⟨h1,h2⟩;exact ⟨j,h2,i,h1,rfl,rfl⟩
theorem mem_loP {n m:Nat} {p:Nat×Nat}:p∈loP n m↔p.1<p.2∧p.2<n∧p.1<m:=by
 obtain ⟨i,j⟩:=p;simp only [loP,List.mem_flatMap,List.mem_range,List.mem_map,Prod.mk.injEq,List.mem_range'_1];constructor
 · rintro ⟨a,ha,b,hb,rfl,rfl⟩;omega
 · rintro ⟨h1,h2,h3⟩;exact ⟨i,h3,j,by omega,rfl,rfl⟩
theorem nodup_inj {α β:Type} {f:α→β} {l:List α} (hf:∀ a∈l,∀ b∈l,f a=f b→a=b) (h:l.Nodup):(l.map f).Nodup:=by
 induction l with
 | nil=>simp
 | cons x l ih =>
  have hd:=List.nodup_cons.1 h;rw [List.map_cons,List.nodup_cons];refine ⟨fun hm=>?_,ih (fun a ha b hb=>hf a (by simp [ha]) b (by simp [hb])) hd.2⟩;obtain ⟨y,hy,e⟩:=List.mem_map.1 hm;have:=hf y (by simp [hy]) x (by simp) e;subst this;exact hd.1 hy
theorem nodup_upP:∀ n,(upP n).Nodup
 | 0=>by simp [upP]
 | n+1=>by
  rw [upP_succ,List.nodup_append];refine ⟨nodup_upP n,nodup_inj (fun a _ b _ e=>by simpa using e) List.nodup_range,?_⟩;rintro ⟨a,b⟩ ha ⟨c,d⟩ hc e;have h1:=mem_upP.1 ha;simp only [List.mem_map,Prod.mk.injEq] at hc;obtain ⟨i,hi,rfl,rfl⟩:=hc;cases e;simp only at h1;omega
theorem nodup_loP (n:Nat):∀ m,(loP n m).Nodup
 | 0=>by simp [loP]
 | m+1=>by
  rw [loP_succ,List.nodup_append];refine ⟨nodup_loP n m,nodup_inj (fun a _ b _ e=>by simpa using e) List.nodup_range',?_⟩;rintro ⟨a,b⟩ ha ⟨c,d⟩ hc e;have h1:=mem_loP.1 ha;simp only [List.mem_map,Prod.mk.injEq] at hc;obtain ⟨i,hi,rfl,rfl⟩:=hc;cases e;simp only at h1;omega
structure Ord (n:Nat) (o:List Nat) (at':List Int):Prop where
 len:o.length=n
 la:at'.length=n
 lt:∀ k∈o,k<n
 nod:o.Nodup
 at_:∀ a (h:a<o.length),at'.getD o[a] (-1)=a
theorem Ord.get {n:Nat} {o:List Nat} {at':List Int} (h:Ord n o at') {k:Nat} (hk:k<n):∃ a,∃ ha:a<o.length,o[a]=k∧at'.getD k (-1)=a:=by
 have hm:=nodup_all h.nod h.lt h.len k hk;obtain ⟨a,ha,rfl⟩:=List.mem_iff_getElem.1 hm;exact ⟨a,ha,rfl,h.at_ a ha⟩
def earlyUp (at':List Int) (C:Nat→Nat→Bool) (n:Nat):Nat:=((upP n).filter fun p=>decide (at'.getD p.2 (-1)<at'.getD p.1 (-1))&&C p.1 p.2).length
def earlyLo (o:List Nat) (C:Nat→Nat→Bool) (n m:Nat):Nat:=((loP n m).filter fun p=>decide (o.getD p.2 0<o.getD p.1 0)&&C (o.getD p.2 0) (o.getD p.1 0)).length
theorem early_eq {n:Nat} {o:List Nat} {at':List Int} (h:Ord n o at') (C:Nat→Nat→Bool):earlyUp at' C n=earlyLo o C n n:=by
 have hl:=h.len;refine Nat.le_antisymm ?_ ?_
 ·
  have hf:∀ p∈(upP n).filter (fun p=>decide (at'.getD p.2 (-1)<at'.getD p.1 (-1))&&C p.1 p.2),∃ a b,∃ (ha:a<o.length) (hb:b<o.length),o[a]=p.2∧o[b]=p.1∧at'.getD p.2 (-1)=a∧at'.getD p.1 (-1)=b∧a<b∧p.1<p.2∧C p.1 p.2=true:=fun p hp=>by
   obtain ⟨h1,h2⟩:=List.mem_filter.1 hp;have h3:=mem_upP.1 h1;simp only [Bool.and_eq_true,decide_eq_true_eq] at h2;obtain ⟨a,ha,e1,e2⟩:=h.get h3.2;obtain ⟨b,hb,e3,e4⟩:=h.get (Nat.lt_trans h3.1 h3.2);refine ⟨a,b,ha,hb,e1,e3,e2,e4,?_,h3.1,h2.2⟩;rw [e2,e4] at h2;omega
  have hg:=nodup_inj (f:=fun p:Nat×Nat=>((at'.getD p.2 (-1)).toNat,(at'.getD p.1 (-1)).toNat)) (l:=(upP n).filter fun p=>decide (at'.getD p.2 (-1)<at'.getD p.1 (-1))&&C p.1 p.2) (fun p hp q hq e=>by
   obtain ⟨a,b,ha,hb,e1,e2,e3,e4,_⟩:=hf p hp;obtain ⟨a',b',ha',hb',f1,f2,f3,f4,_⟩:=hf q hq;simp only [e3,e4,f3,f4,Int.toNat_natCast,Prod.mk.injEq] at e;obtain ⟨rfl,rfl⟩:=e;exact Prod.ext (e2.symm.trans f2) (e1.symm.trans f1)) ((nodup_upP n).filter _)
  have:=nodup_subG _ ((loP n n).filter fun p=>decide (o.getD p.2 0<o.getD p.1 0)&&C (o.getD p.2 0) (o.getD p.1 0)) hg (fun x hx=>by
   obtain ⟨p,hp,rfl⟩:=List.mem_map.1 hx;obtain ⟨a,b,ha,hb,e1,e2,e3,e4,hab,hlt,hC⟩:=hf p hp;simp only [e3,e4,Int.toNat_natCast];refine List.mem_filter.2 ⟨mem_loP.2 ⟨hab,by simp only;omega,by simp only;omega⟩,?_⟩;have g1:o.getD a 0=p.2:=by rw [List.getD_eq_getElem?_getD,List.getElem?_eq_getElem ha,e1];rfl
   have g2:o.getD b 0=p.1:=by rw [List.getD_eq_getElem?_getD,List.getElem?_eq_getElem hb,e2];rfl
   simp only [g1,g2,hC,Bool.and_true,decide_eq_true_eq];exact hlt)
  rw [List.length_map] at this;exact this
 ·
  have hf:∀ p∈(loP n n).filter (fun p=>decide (o.getD p.2 0<o.getD p.1 0)&&C (o.getD p.2 0) (o.getD p.1 0)),∃ (h1:p.1<o.length) (h2:p.2<o.length),o.getD p.1 0=o[p.1]∧o.getD p.2 0=o[p.2]∧p.1<p.2∧o[p.2]<o[p.1]∧C o[p.2] o[p.1]=true:=fun p hp=>by
   obtain ⟨h1,h2⟩:=List.mem_filter.1 hp;have h3:=mem_loP.1 h1;simp only [Bool.and_eq_true,decide_eq_true_eq] at h2;have l1:p.1<o.length:=by omega
   have l2:p.2<o.length:=by omega
   have g1:o.getD p.1 0=o[p.1]:=by rw [List.getD_eq_getElem?_getD,List.getElem?_eq_getElem l1];rfl
   have g2:o.getD p.2 0=o[p.2]:=by rw [List.getD_eq_getElem?_getD,List.getElem?_eq_getElem l2];rfl
   rw [g1,g2] at h2;exact ⟨l1,l2,g1,g2,h3.1,h2⟩
  have hg:=nodup_inj (f:=fun p:Nat×Nat=>(o.getD p.2 0,o.getD p.1 0)) (l:=(loP n n).filter fun p=>decide (o.getD p.2 0<o.getD p.1 0)&&C (o.getD p.2 0) (o.getD p.1 0)) (fun p hp q hq e=>by
   obtain ⟨a1,a2,a3,a4,_⟩:=hf p hp;obtain ⟨b1,b2,b3,b4,_⟩:=hf q hq;simp only [a3,a4,b3,b4,Prod.mk.injEq] at e;exact Prod.ext ((List.getElem_inj h.nod).1 e.2) ((List.getElem_inj h.nod).1 e.1)) ((nodup_loP n n).filter _)
  have:=nodup_subG _ ((upP n).filter fun p=>decide (at'.getD p.2 (-1)<at'.getD p.1 (-1))&&C p.1 p.2) hg (fun x hx=>by
   obtain ⟨p,hp,rfl⟩:=List.mem_map.1 hx;obtain ⟨l1,l2,g1,g2,hab,hlt,hC⟩:=hf p hp;simp only [g1,g2];refine List.mem_filter.2 ⟨mem_upP.2 ⟨hlt,h.lt _ (List.getElem_mem l1)⟩,?_⟩;simp only [h.at_ _ l1,h.at_ _ l2,hC,Bool.and_true,decide_eq_true_eq];omega)
  rw [List.length_map] at this;exact this
theorem early_zero {o:List Nat} {C:Nat→Nat→Bool} {n:Nat}:earlyLo o C n n=0↔∀ a b,a<b→b<n→¬ (o.getD b 0<o.getD a 0∧C (o.getD b 0) (o.getD a 0)=true):=by
 unfold earlyLo;rw [List.length_eq_zero_iff,List.filter_eq_nil_iff];constructor
 ·
  intro h a b hab hb hc;exact h (a,b) (mem_loP.2 ⟨hab,hb,by simp only;omega⟩) (by simp only [hc.2,Bool.and_true,decide_eq_true_eq];exact hc.1)
 ·
  rintro h ⟨a,b⟩ hm;have h1:=mem_loP.1 hm;simp only [Bool.and_eq_true,decide_eq_true_eq];exact h a b h1.1 h1.2.1
end Go.Cw
