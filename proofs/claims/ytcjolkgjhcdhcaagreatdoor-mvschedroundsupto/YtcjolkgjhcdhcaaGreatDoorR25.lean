/- Part 25 of a proof: CwU, CwV, CwX, CwY -/
import Derived.Test.YtcjolkgjhcdhcaaGreatDoorR24
set_option linter.all false

namespace Go.Cw
open Go Go.Abs
structure Txn where
 id:Int
 proc:qac
 args:List V
 ft:Foot
 att:Int
def Txn.c (t:Txn):List AV:=[I t.id,S t.proc,.slice (t.args.map V.c),Bo t.ft.all,.slice (t.ft.reads.map qbd),.slice (t.ft.writes.map qbd),I t.att]
def findN (procs:List Proc) (name:qac):Option Proc:=procs.find? fun p=>decide (p.name=name)
def findP (procs:List Proc) (t:Txn):Option Proc :=
 match findN procs t.proc with
 | none=>none
 | some p=>if qc5 p t.args=0 then some p else none
section
variable (fmt:Int→qac)
def oneS (procs:List Proc) (s:List Pr) (t:Txn):List Pr×Eff :=
 match findP procs t with
 | none=>(s,wrongE)
 | some p=>if (runS fmt p t.args s t.ft).status=1 then (applyP s (runS fmt p t.args s t.ft).writes,runS fmt p t.args s t.ft) else (s,runS fmt p t.args s t.ft)
def qb2 (procs:List Proc) (s:List Pr) (l:List Txn):List Pr×List Eff :=
 l.foldl (fun y t=>((oneS fmt procs y.1 t).1,y.2++[(oneS fmt procs y.1 t).2])) (s,[])
end
def wroteS (e:Eff) (k:qac):Bool:=decide (e.status=1)&&hasP e.writes k
def qdp (s:List Pr) (e:Eff):List Pr:=if e.status=1∧qa0 s=true∧qcm e.writes=true then applyP s e.writes else s
section
variable (fmt:Int→qac)
end
structure BatchIn (fmt:Int→qac) (procs:List Proc) (l:List Txn):Prop where
 fmt:∀ n,i64 n→qa7 (fmt n)=true
 body:∀ p∈procs,∀ t∈p.body,rngS t
 args:∀ t∈l,∀ v∈t.args,qdt v
abbrev rngL (s:List Pr):Prop:=∀ q∈s,qdt q.v
section
variable {fmt:Int→qac}
theorem findP_mem {procs:List Proc} {t:Txn} {p:Proc} (h:findP procs t=some p):p∈procs∧qc5 p t.args=0:=by
 unfold findP at h;split at h
 · cases h
 ·
  rename_i q hq;split at h
  ·
   cases h;exact ⟨List.mem_of_find?_eq_some hq,by assumption⟩
  · cases h
theorem run_same {p:Proc} {args:List V} {a b:List Pr} {ft:Foot} (ha:qa0 a=true) (hb:qa0 b=true) (hg:∀ k∈(runS fmt p args a ft).reads,qeh a k=qeh b k):runS fmt p args b ft=runS fmt p args a ft:=by
 by_cases h:runOk p args a ft
 ·
  have hr:=(qb1 _ _ _ _).1 h;have h':runOk p args b ft:=(qb1 _ _ _ _).2 ⟨hr.1,hr.2.1,hb,hr.2.2.2⟩;rw [qdy h,done_reads] at hg;rw [qdy h,qdy h'];exact congrArg doneS (two_blk (alike_local (cfgR fmt a ft) b) p.body (ms0 p args) hg)
 ·
  have h':¬ runOk p args b ft:=fun h'=>h (by
   have:=(qb1 _ _ _ _).1 h';exact (qb1 _ _ _ _).2 ⟨this.1,this.2.1,ha,this.2.2.2⟩)
  rw [qd4 h,qd4 h']
theorem run_commit_ok {p:Proc} {args:List V} {s:List Pr} {ft:Foot} (h:(runS fmt p args s ft).status=1):qa0 s=true:=by
 by_cases hr:runOk p args s ft
 · exact ((qb1 _ _ _ _).1 hr).2.2.1
 · rw [qd4 hr] at h;simp [wrongE] at h
theorem run_rngW {p:Proc} {args:List V} {s:List Pr} {ft:Foot} (hI:RunIn fmt p args s):rngL (runS fmt p args s ft).writes:=by
 by_cases hr:runOk p args s ft
 ·
  have hr':=(qb1 _ _ _ _).1 hr;rw [qdy hr];rcases hx:qdk (cfgR fmt s ft) p.body (ms0 p args) with ⟨z | u,m⟩
  · intro q hq;simp [doneS] at hq
  ·
   have hi:=blkI_ok (C:=cfgR fmt s ft) (fun q hq=>hI.st q hq) p.body _ _ _ (cost_goS hr'.1 hI.body) (inv0 hI) hx;intro q hq;simp only [doneS,List.mem_map] at hq;obtain ⟨k,_,rfl⟩:=hq;simp only;rcases hg:qbt m.own k with _ | w
   · exact rng_nil
   · exact hi.rng.2 _ (kGet_mem hg)
 · rw [qd4 hr];intro q hq;cases hq
theorem run_lenW {p:Proc} {args:List V} {s:List Pr} {ft:Foot} (hI:RunIn fmt p args s):(runS fmt p args s ft).writes.length≤64:=by
 by_cases h1:(runS fmt p args s ft).status=1
 ·
  have h:=(run_commit hI h1).1;have hl:(runS fmt p args s ft).writes.length=(runS fmt p args s ft).puts.length:=by rw [← h,List.length_map]
  by_cases hc:qbx p=0
  ·
   have h1:=run_bounds (ft:=ft) hI hc;have h2:=cost_lim hc;omega
  · rw [run_wrong hc];simp [wrongE]
 · rw [(run_else h1).1];simp
theorem rngL_apply {l w:List Pr} (hl:rngL l) (hw:rngL w) (al:qa0 l=true) (aw:qcm w=true):rngL (applyP l w):=fun q hq=>by
 rcases ((applyP_spec ((qd2 l).1 al).2.2 ((qdg w).1 aw).2.2).2 q).1 hq with h | h
 · exact hl q h.1
 · exact hw q h.1
theorem addP_len:∀ (w out:List Pr),(addP out w).length≤out.length+w.length
 | [],out=>by simp [addP]
 | p::w,out=>by
  rw [addP];split
  · have:=addP_len w out;simp only [List.length_cons];omega
  ·
   have:=addP_len w (withP out p);have h:(withP out p).length=out.length+1:=by
    unfold withP;simp only [List.length_append,List.length_take,List.length_cons,List.length_drop];omega
   simp only [List.length_cons];omega
theorem applyP_len (l w:List Pr):(applyP l w).length≤l.length+w.length:=by
 have h1:=addP_len w (keepP w l);have h2:=(keepP_spec w l).1.length_le;unfold applyP;omega
structure OneOk (s:List Pr) (x:List Pr×Eff):Prop where
 rng:rngL x.1
 len:x.1.length≤s.length+64
 ok:qa0 s=true→qa0 x.1=true
 no:qa0 s=false→x.1=s
 get:∀ k,wroteS x.2 k=false→qeh x.1 k=qeh s k
 upd:x.1=qdp s x.2
 rds:x.2.reads.length≤64
 wrs:x.2.writes.length≤64
 wrng:rngL x.2.writes
 com:x.2.status=1→qa0 s=true∧qcm x.2.writes=true
theorem one_ok {procs:List Proc} {s:List Pr} {t:Txn} (hf:∀ n,i64 n→qa7 (fmt n)=true) (hb:∀ p∈procs,∀ t∈p.body,rngS t) (ha:∀ v∈t.args,qdt v) (hs:rngL s):OneOk s (oneS fmt procs s t):=by
 unfold oneS;split
 · exact { rng:=hs,len:=by simp,ok:=id,no:=fun _=>rfl,get:=fun _ _=>rfl,upd:=by simp [qdp,wrongE],rds:=by simp [wrongE],wrs:=by simp [wrongE],wrng:=by intro q hq;simp [wrongE] at hq,com:=fun h=>by simp [wrongE] at h }
 ·
  rename_i p hp;have hI:RunIn fmt p t.args s:=⟨hf,hb p (findP_mem hp).1,ha,hs⟩
  have hl:(runS fmt p t.args s t.ft).reads.length≤64:=by
   by_cases hc:qbx p=0
   ·
    have h1:=run_bounds (ft:=t.ft) hI hc;have h2:=cost_lim hc;omega
   · rw [run_wrong hc];simp [wrongE]
  have hw:=run_lenW (ft:=t.ft) hI;have hwr:=run_rngW (ft:=t.ft) hI;split
  ·
   rename_i h1;have hs1:=run_commit_ok h1;have hw1:=(run_commit hI h1).2.2;refine ⟨rngL_apply hs hwr hs1 hw1,?_,fun _=>applyP_ok hs1 hw1,fun h=>?_,fun k hk=>?_,?_,hl,hw,hwr,fun _=>⟨hs1,hw1⟩⟩
   · have:=applyP_len s (runS fmt p t.args s t.ft).writes;simp only;omega
   · rw [hs1] at h;cases h
   ·
    obtain ⟨w1,w2,w3⟩:=(qdg _).1 hw1;simp only at hk ⊢;rw [getP_apply ((qd2 s).1 hs1).2.2 w3 w1];simp only [wroteS,h1,decide_true,Bool.true_and] at hk;simp [hk]
   · simp only [qdp];rw [if_pos ⟨h1,hs1,hw1⟩]
  ·
   rename_i h1;refine ⟨hs,by simp,id,fun _=>rfl,fun _ _=>rfl,?_,hl,hw,hwr,fun h=>(h1 h).elim⟩;simp only [qdp];rw [if_neg (fun h=>h1 h.1)]
theorem one_same {procs:List Proc} {a b:List Pr} {t:Txn} (ha:qa0 a=true) (hb:qa0 b=true) (hg:∀ k∈(oneS fmt procs a t).2.reads,qeh a k=qeh b k):(oneS fmt procs b t).2=(oneS fmt procs a t).2:=by
 unfold oneS at hg ⊢;rcases hp:findP procs t with _ | p
 · rfl
 ·
  rw [hp] at hg;have h:runS fmt p t.args b t.ft=runS fmt p t.args a t.ft:=run_same ha hb (fun k hk=>hg k (by simp only;split<;>exact hk));simp only [h];split<;>rfl
theorem round_snoc (procs:List Proc) (s:List Pr) (l:List Txn) (t:Txn):qb2 fmt procs s (l++[t])=((oneS fmt procs (qb2 fmt procs s l).1 t).1,(qb2 fmt procs s l).2++[(oneS fmt procs (qb2 fmt procs s l).1 t).2]):=by
 unfold qb2;rw [List.foldl_append];rfl
structure RoundOk (s:List Pr) (n:Nat) (x:List Pr×List Eff):Prop where
 rng:rngL x.1
 len:x.1.length≤s.length+64 * n
 cnt:x.2.length=n
 ok:qa0 s=true→qa0 x.1=true
 no:qa0 s=false→x.1=s
 get:∀ k,(∀ e∈x.2,wroteS e k=false)→qeh x.1 k=qeh s k
 rds:∀ e∈x.2,e.reads.length≤64
 wrs:∀ e∈x.2,e.writes.length≤64
 wrng:∀ e∈x.2,rngL e.writes
theorem BatchIn.init {procs:List Proc} {l:List Txn} {t:Txn} (h:BatchIn fmt procs (l++[t])):BatchIn fmt procs l:=⟨h.fmt,h.body,fun x hx=>h.args x (by simp [hx])⟩
theorem BatchIn.take {procs:List Proc} {l:List Txn} (h:BatchIn fmt procs l) (n:Nat):BatchIn fmt procs (l.take n):=⟨h.fmt,h.body,fun x hx=>h.args x (List.mem_of_mem_take hx)⟩
theorem snoc_ind {α:Type} {P:List α→Prop} (h0:P []) (h1:∀ l x,P l→P (l++[x])) (l:List α):P l:=by
 have:∀ n (l:List α),l.length=n→P l:=by
  intro n
  induction n with
  | zero=>intro l hl;rw [List.eq_nil_of_length_eq_zero hl];exact h0
  | succ n ih =>
   intro l hl;have hne:l≠[]:=by rintro rfl;cases hl
   have e:l=l.dropLast++[l.getLast hne]:=(List.dropLast_concat_getLast hne).symm;rw [e];exact h1 _ _ (ih _ (by simp [hl]))
 exact this _ l rfl
theorem round_ok {procs:List Proc} {s:List Pr} (hs:rngL s):∀ (l:List Txn),BatchIn fmt procs l→RoundOk s l.length (qb2 fmt procs s l):=by
 refine snoc_ind (fun _=>⟨hs,by simp [qb2],rfl,id,fun _=>rfl,fun _ _=>rfl,by simp [qb2],by simp [qb2],by simp [qb2]⟩) fun l t ih hB=>?_;have hR:=ih hB.init;have hO:=one_ok (fmt:=fmt) (procs:=procs) (t:=t) hB.fmt hB.body (hB.args t (by simp)) hR.rng;rw [round_snoc];refine ⟨hO.rng,?_,by simp [hR.cnt],fun h=>hO.ok (hR.ok h),fun h=>?_,fun k hk=>?_,fun e he=>?_,fun e he=>?_,fun e he=>?_⟩
 · have:=hR.len;have:=hO.len;simp only [List.length_append,List.length_singleton];omega
 ·
  have h1:=hR.no h;have:=hO.no (by rw [h1];exact h);exact this.trans h1
 ·
  simp only [List.mem_append,List.mem_singleton] at hk;rw [hO.get k (hk _ (.inr rfl)),hR.get k (fun e he=>hk e (.inl he))]
 ·
  simp only [List.mem_append,List.mem_singleton] at he;rcases he with he | rfl
  · exact hR.rds e he
  · exact hO.rds
 ·
  simp only [List.mem_append,List.mem_singleton] at he;rcases he with he | rfl
  · exact hR.wrs e he
  · exact hO.wrs
 ·
  simp only [List.mem_append,List.mem_singleton] at he;rcases he with he | rfl
  · exact hR.wrng e he
  · exact hO.wrng
end
end Go.Cw

namespace Go.Cw
open Go Go.Abs
def putW (q:Pr) (l:List Pr):List Pr:=if q.v.k=0 then l else q::l
def mergeP:List Pr→List Pr→List Pr
 | [],[]=>[]
 | [],q::w=>putW q (mergeP [] w)
 | p::l,[]=>p::mergeP l []
 | p::l,q::w=>if sLt p.key q.key=true then p::mergeP l (q::w) else if sLt q.key p.key=true then putW q (mergeP (p::l) w) else putW q (mergeP l w)
termination_by l w=>l.length+w.length
decreasing_by all_goals simp only [List.length_cons,List.length_nil];omega
theorem asc_cons {p:Pr} {l:List Pr}:qec (qcp (p::l))↔(∀ q∈l,sLt p.key q.key=true)∧qec (qcp l):=by
 simp [qec,qcp,List.pairwise_cons]
theorem asc_ext:∀ {l m:List Pr},qec (qcp l)→qec (qcp m)→(∀ q,q∈l↔q∈m)→l=m
 | [],[],_,_,_=>rfl
 | [],q::m,_,_,h=>by have:=(h q).2 (by simp);cases this
 | p::l,[],_,_,h=>by have:=(h p).1 (by simp);cases this
 | p::l,q::m,hl,hm,h=>by
  rw [asc_cons] at hl hm;have e:p=q:=by
   rcases List.mem_cons.1 ((h p).1 (by simp)) with e | e
   · exact e
   ·
    rcases List.mem_cons.1 ((h q).2 (by simp)) with e' | e'
    · exact e'.symm
    ·
     have h1:=hm.1 _ e;have h2:=hl.1 _ e';rw [sLt_asymm h1] at h2;cases h2
  subst e;have:l=m:=asc_ext hl.2 hm.2 fun q=>by
   constructor
   ·
    intro hq;rcases List.mem_cons.1 ((h q).1 (by simp [hq])) with e | e
    · subst e;have:=hl.1 _ hq;rw [qcu] at this;cases this
    · exact e
   ·
    intro hq;rcases List.mem_cons.1 ((h q).2 (by simp [hq])) with e | e
    · subst e;have:=hm.1 _ hq;rw [qcu] at this;cases this
    · exact e
  rw [this]
theorem putW_mem {q x:Pr} {l:List Pr}:x∈putW q l↔(x=q∧x.v.k≠0)∨x∈l:=by
 unfold putW;split
 ·
  rename_i h;constructor
  · exact .inr
  ·
   rintro (⟨rfl,h'⟩ | h')
   · exact (h' h).elim
   · exact h'
 ·
  rename_i h;rw [List.mem_cons];constructor
  ·
   rintro (rfl | h')
   · exact .inl ⟨rfl,h⟩
   · exact .inr h'
  ·
   rintro (⟨rfl,_⟩ | h')
   · exact .inl rfl
   · exact .inr h'
theorem putW_asc {q:Pr} {l:List Pr} (h:∀ x∈l,sLt q.key x.key=true) (hl:qec (qcp l)):qec (qcp (putW q l)):=by
 unfold putW;split
 · exact hl
 · exact asc_cons.2 ⟨h,hl⟩
theorem hasP_cons (q:Pr) (w:List Pr) (k:qac):hasP (q::w) k=(decide (q.key=k)||hasP w k):=by simp [hasP,anyL]
theorem mergeP_mem (l w:List Pr):(∀ x∈mergeP l w,x∈l∨x∈w):=by
 induction l,w using mergeP.induct with
 | case1=>intro x hx;simp [mergeP] at hx
 | case2 q w ih =>
  intro x hx;rw [mergeP,putW_mem] at hx;rcases hx with ⟨rfl,_⟩ | hx
  · simp
  · rcases ih x hx with h | h<;>simp [h]
 | case3 p l ih =>
  intro x hx;rw [mergeP,List.mem_cons] at hx;rcases hx with rfl | hx
  · simp
  · rcases ih x hx with h | h<;>simp [h]
 | case4 p l q w h1 ih =>
  intro x hx;rw [mergeP,if_pos h1,List.mem_cons] at hx;rcases hx with rfl | hx
  · simp
  ·
   rcases ih x hx with h | h
   · simp [h]
   · exact .inr h
 | case5 p l q w h1 h2 ih =>
  intro x hx;rw [mergeP,if_neg h1,if_pos h2,putW_mem] at hx;rcases hx with ⟨rfl,_⟩ | hx
  · simp
  ·
   rcases ih x hx with h | h
   · exact .inl h
   · simp [h]
 | case6 p l q w h1 h2 ih =>
  intro x hx;rw [mergeP,if_neg h1,if_neg h2,putW_mem] at hx;rcases hx with ⟨rfl,_⟩ | hx
  · simp
  · rcases ih x hx with h | h<;>simp [h]
theorem sLt_eq {a b:qac} (h1:¬ sLt a b=true) (h2:¬ sLt b a=true):a=b:=by
 have:=sLt_tri a b;simp only [Bool.not_eq_true] at h1 h2;rw [h1,h2] at this;simpa using this
theorem hasP_lt {q:qac} {w:List Pr} (h:∀ x∈w,sLt q x.key=true):hasP w q=false:=hasP_false.2 fun p hp e=>by
 have:=h p hp;rw [e,qcu] at this;cases this
theorem mergeP_spec (l w:List Pr):qec (qcp l)→qec (qcp w)→qec (qcp (mergeP l w))∧∀ q,q∈mergeP l w↔(q∈l∧hasP w q.key=false)∨(q∈w∧q.v.k≠0):=by
 induction l,w using mergeP.induct with
 | case1=>intro _ _;simp [mergeP,qcp]
 | case2 q w ih =>
  intro hl hw;rw [asc_cons] at hw;obtain ⟨i1,i2⟩:=ih hl hw.2;rw [mergeP];refine ⟨putW_asc (fun x hx=>?_) i1,fun x=>?_⟩
  ·
   rcases mergeP_mem _ _ x hx with h | h
   · cases h
   · exact hw.1 x h
  ·
   rw [putW_mem,i2];simp only [List.not_mem_nil,false_and,false_or,List.mem_cons];grind
 | case3 p l ih =>
  intro hl hw;rw [asc_cons] at hl;obtain ⟨i1,i2⟩:=ih hl.2 hw;rw [mergeP];refine ⟨asc_cons.2 ⟨fun x hx=>?_,i1⟩,fun x=>?_⟩
  ·
   rcases mergeP_mem _ _ x hx with h | h
   · exact hl.1 x h
   · cases h
  ·
   rw [List.mem_cons,i2];simp [hasP,anyL]
 | case4 p l q w h1 ih =>
  intro hl hw;have hw0:=hw;rw [asc_cons] at hl hw;obtain ⟨i1,i2⟩:=ih hl.2 hw0;have hp:∀ x∈q::w,sLt p.key x.key=true:=fun x hx=>by
   rcases List.mem_cons.1 hx with rfl | hx
   · exact h1
   · exact sLt_trans h1 (hw.1 x hx)
  rw [mergeP,if_pos h1];refine ⟨asc_cons.2 ⟨fun x hx=>?_,i1⟩,fun x=>?_⟩
  ·
   rcases mergeP_mem _ _ x hx with h | h
   · exact hl.1 x h
   · exact hp x h
  ·
   rw [List.mem_cons,i2,List.mem_cons (a:=x) (b:=p)];have:=hasP_lt hp;constructor
   ·
    rintro (rfl | ⟨h,h'⟩ | h)
    · exact .inl ⟨.inl rfl,this⟩
    · exact .inl ⟨.inr h,h'⟩
    · exact .inr h
   ·
    rintro (⟨e | h,h'⟩ | h)
    · exact .inl e
    · exact .inr (.inl ⟨h,h'⟩)
    · exact .inr (.inr h)
 | case5 p l q w h1 h2 ih =>
  intro hl hw;have hl0:=hl;rw [asc_cons] at hl hw;obtain ⟨i1,i2⟩:=ih hl0 hw.2;have hq:∀ x∈p::l,sLt q.key x.key=true:=fun x hx=>by
   rcases List.mem_cons.1 hx with rfl | hx
   · exact h2
   · exact sLt_trans h2 (hl.1 x hx)
  rw [mergeP,if_neg h1,if_pos h2];refine ⟨putW_asc (fun x hx=>?_) i1,fun x=>?_⟩
  ·
   rcases mergeP_mem _ _ x hx with h | h
   · exact hq x h
   · exact hw.1 x h
  ·
   rw [putW_mem,i2,hasP_cons,List.mem_cons (a:=x) (b:=q)];constructor
   ·
    rintro (⟨rfl,h⟩ | ⟨h,h'⟩ | ⟨h,h'⟩)
    · exact .inr ⟨.inl rfl,h⟩
    ·
     refine .inl ⟨h,?_⟩;have:¬ q.key=x.key:=fun e=>by have:=hq x h;rw [e,qcu] at this;cases this
     simp [this,h']
    · exact .inr ⟨.inr h,h'⟩
   ·
    rintro (⟨h,h'⟩ | ⟨rfl | h,h'⟩)
    ·
     simp only [Bool.or_eq_false_iff] at h';exact .inr (.inl ⟨h,h'.2⟩)
    · exact .inl ⟨rfl,h'⟩
    · exact .inr (.inr ⟨h,h'⟩)
 | case6 p l q w h1 h2 ih =>
  intro hl hw;rw [asc_cons] at hl hw;obtain ⟨i1,i2⟩:=ih hl.2 hw.2;have e:=sLt_eq h1 h2;have hq:∀ x∈l,sLt q.key x.key=true:=fun x hx=>by rw [← e];exact hl.1 x hx
  rw [mergeP,if_neg h1,if_neg h2];refine ⟨putW_asc (fun x hx=>?_) i1,fun x=>?_⟩
  ·
   rcases mergeP_mem _ _ x hx with h | h
   · exact hq x h
   · exact hw.1 x h
  ·
   rw [putW_mem,i2,hasP_cons,List.mem_cons,List.mem_cons];constructor
   ·
    rintro (⟨rfl,h⟩ | ⟨h,h'⟩ | ⟨h,h'⟩)
    · exact .inr ⟨.inl rfl,h⟩
    ·
     refine .inl ⟨.inr h,?_⟩;have:¬ q.key=x.key:=fun e=>by have:=hq x h;rw [e,qcu] at this;cases this
     simp [this,h']
    · exact .inr ⟨.inr h,h'⟩
   ·
    rintro (⟨h | h,h'⟩ | ⟨rfl | h,h'⟩)
    ·
     subst h;simp only [Bool.or_eq_false_iff,decide_eq_false_iff_not] at h';exact (h'.1 e.symm).elim
    ·
     simp only [Bool.or_eq_false_iff] at h';exact .inr (.inl ⟨h,h'.2⟩)
    · exact .inl ⟨rfl,h'⟩
    · exact .inr (.inr ⟨h,h'⟩)
theorem mergeP_eq {l w:List Pr} (hl:qec (qcp l)) (hw:qec (qcp w)):mergeP l w=applyP l w:=by
 obtain ⟨a1,a2⟩:=mergeP_spec l w hl hw;obtain ⟨b1,b2⟩:=applyP_spec hl hw;exact asc_ext a1 b1 fun q=>by rw [a2,b2]
end Go.Cw

namespace Go.Cw
open Go Go.Abs
structure RM where
 vars:List Pr
 own:List Pr
 st:Int
 code:Int
 out:List V
 reads:List qac
 puts:List qac
 miss:qac
 steps:Int
def RM.c (C:Cfg) (m:RM):List AV:=[.slice (C.state.map Pr.c),Bo C.all,.slice (C.rd.map qbd),.slice (C.wr.map qbd),.slice (m.vars.map Pr.c),.slice (m.own.map Pr.c),I m.st,I m.code,.slice (m.out.map V.c),.slice (m.reads.map qbd),.slice (m.puts.map qbd),.slice [],S m.miss,I m.steps]
def RM.ab (m:RM) (c:Int):RM:={ m with st:=2,code:=c,out:=[] }
def RM.rst (m:RM) (k:qac):RM:={ m with st:=3,code:=0,out:=[],miss:=k }
def restP (l:List Pr) (k:qac):Nat:=if (l[posP k l]?).map Pr.key=some k then posP k l+1 else posP k l
def setR (l:List Pr) (p:Pr):List Pr:=l.take (posP p.key l)++p::l.drop (restP l p.key)
def qbi (C:Cfg) (m:RM) (k:qac):V×RM :=
 if keyOk k=false then (V.nil,m.ab 1004)
 else if qcr m.puts k=true then (qeh m.own k,m)
 else if C.all=false∧qcr C.rd k=false then (V.nil,m.rst k)
 else (qeh C.state k,{ m with reads:=qeb m.reads k })
def storeR (C:Cfg) (m:RM) (k:qac) (v:V):RM :=
 if keyOk k=false then m.ab 1004
 else if C.all=false∧qcr C.wr k=false then m.rst k
 else { m with puts:=qeb m.puts k,own:=setR m.own ⟨k,v⟩ }
def emitR (m:RM) (v:V):RM:=if 16≤(m.out.length:Int) then m.ab 1007 else { m with out:=m.out++[v] }
def qdr (m:RM):RM:=if 16384<W64 (m.steps+1) then { m with steps:=W64 (m.steps+1) }.ab 1008 else { m with steps:=W64 (m.steps+1) }
def calcR (m:RM) (r:Int×Int):V×RM:=if r.2=4 then (V.nil,m.ab 1002) else if r.2≠0 then (V.nil,m.ab 1001) else (vI r.1,m)
def arithR (op a b:Int):Int×Int:=if op=4 then numAdd a b else if op=5 then qcq a b else if op=6 then numMul a b else if op=7 then numDiv a b else numMod a b
def cmpR (a b:V):Int:=if a.n<b.n∨sLt a.s b.s=true then -1 else if eqVal a b=true then 0 else 1
def twoR (m:RM) (op:Int) (a b:V):V×RM :=
 if op=4∨op=5∨op=6∨op=7∨op=8 then (if a.k=1∧b.k=1 then calcR m (arithR op a.n b.n) else (V.nil,m.ab 1009))
 else if op=16 then (if a.k=3∧b.k=3 then (vB (decide (a.n=1)&&decide (b.n=1)),m) else (V.nil,m.ab 1009))
 else if op=17 then (if a.k=3∧b.k=3 then (vB (decide (a.n=1)||decide (b.n=1)),m) else (V.nil,m.ab 1009))
 else if op=19 then (if a.k=2∧b.k=2 then (if 64<W64 (a.s.size+b.s.size:Int) then (V.nil,m.ab 1006) else (vS (a.s++b.s),m)) else (V.nil,m.ab 1009))
 else if (a.k=1∧b.k=1)∨(a.k=2∧b.k=2)∨(a.k=3∧b.k=3∧(op=10∨op=11)) then (vB (cmpBy op (cmpR a b)),m)
 else (V.nil,m.ab 1009)
def wantR (op:Int):Int:=if op=18 then 3 else if op=9∨op=20 then 1 else 2
def oneR (C:Cfg) (m:RM) (op:Int) (a:V):V×RM :=
 if a.k≠wantR op then (V.nil,m.ab 1009)
 else if op=9 then calcR m (qdo a.n)
 else if op=18 then (vB (decide (a.n=0)),m)
 else if op=20 then (vS (C.fmt a.n),m)
 else if op=21 then (vI a.s.size,m)
 else
  let x:=qbi C m a.s
  if x.2.st≠0 then (V.nil,x.2)
  else if op=24 then (vB (!decide (x.1.k=0)),x.2)
  else if x.1.k=0 then (⟨if op=23 then 2 else 1,0,em⟩,x.2)
  else if x.1.k≠(if op=23 then 2 else 1) then (V.nil,x.2.ab 1003)
  else (x.1,x.2)
def opR (C:Cfg) (m:RM) (op:Int) (l:List V):V×RM :=
 match l with
 | [a]=>oneR C m op a
 | [a,b]=>twoR m op a b
 | _=>(V.nil,m.ab 1009)
section
variable (C:Cfg)
mutual
def evR:Ex→RM→V×RM
 | .mk op n s args,m =>
  if op=1 then (vI n,m)
  else if op=2 then (vS s,m)
  else if op=3 then (if hasP m.vars s=true then (qeh m.vars s,m) else (V.nil,m.ab 1009))
  else
   let x:=evRL args m
   if x.2.st≠0 then (V.nil,x.2) else opR C x.2 op x.1
def evRL:List Ex→RM→List V×RM
 | [],m=>([],m)
 | e::l,m =>
  let x:=evR e m
  if x.2.st≠0 then ([],x.2)
  else
   let y:=evRL l x.2
   (x.1::y.1,y.2)
end
theorem evR_eq (e:Ex) (m:RM):evR C e m=if e.op=1 then (vI e.n,m)
  else if e.op=2 then (vS e.s,m)
  else if e.op=3 then (if hasP m.vars e.s=true then (qeh m.vars e.s,m) else (V.nil,m.ab 1009))
  else if (evRL C e.args m).2.st≠0 then (V.nil,(evRL C e.args m).2) else opR C (evRL C e.args m).2 e.op (evRL C e.args m).1:=by
 cases e;rw [evR];rfl
end
end Go.Cw

namespace Go.Cw
open Go Go.Abs
theorem qch {α:Type}:∀ (l:List (qac×α)) (s k:qac) (v:α),qbt (qcj l s v) k=if s=k then some v else qbt l k
 | [],s,k,v=>by simp only [qcj,qbt]
 | p::l,s,k,v=>by
  rw [qcj];split
  ·
   rename_i h;rw [qbt,qbt];subst h;split<;>rfl
  ·
   rename_i h;rw [qbt,qch l s k v,qbt];split
   ·
    rename_i h2;subst h2;rw [if_neg (fun e=>h e.symm)]
   · rfl
theorem cmpL_lt:∀ (a b:List UInt8),(Go.Lib.compareBytes a b<0↔Op.bytesLess a b=true)∧(Go.Lib.compareBytes a b=0↔a=b)
 | [],[]=>by simp [Go.Lib.compareBytes,Op.bytesLess]
 | [],_::_=>by simp [Go.Lib.compareBytes,Op.bytesLess]
 | _::_,[]=>by simp [Go.Lib.compareBytes,Op.bytesLess]
 | x::a,y::b=>by
  have ih:=cmpL_lt a b;simp only [Go.Lib.compareBytes,Op.bytesLess,List.cons.injEq];split
  ·
   rename_i h;have:x≠y:=by rintro rfl;exact absurd h (by simp)
   simp [h,this]
  ·
   rename_i h;split
   ·
    rename_i h2;have:x≠y:=by rintro rfl;exact absurd h2 (by simp)
    simp [h,this]
   ·
    rename_i h2;have:x=y:=by
     apply UInt8.toNat_inj.1;have h3:¬ x.toNat<y.toNat:=h;have h4:¬ y.toNat<x.toNat:=h2;omega
    subst this;simp [ih]
theorem cmpS_lt (a b:qac):(cmpS a b<0↔sLt a b=true)∧(cmpS a b=0↔a=b):=by
 have h:=cmpL_lt a.data.toList b.data.toList;have e:∀ x:qac,x.toList=x.data.toList:=fun x=>by simp [ByteArray.toList_eq]
 refine ⟨?_,?_⟩
 ·
  unfold cmpS sLt;rw [e,e];exact h.1
 ·
  unfold cmpS;rw [h.2];constructor
  ·
   intro he;have:a.data=b.data:=Array.toList_inj.1 he;cases a;cases b;simp_all
  · rintro rfl;rfl
theorem setR_cons {p q:Pr} {l:List Pr} (h:sLt q.key p.key=true):setR (q::l) p=q::setR l p:=by
 unfold setR restP;simp only [posP,h,if_true,List.take_succ_cons,List.getElem?_cons_succ,List.cons_append];split<;>simp
theorem setR_map (l:List Pr) (p:Pr) (k:qac):hasP (setR l p) k=(decide (p.key=k)||hasP l k)∧qeh (setR l p) k=if p.key=k then p.v else qeh l k:=by
 induction l with
 | nil=>simp [setR,restP,posP,hasP,anyL,qeh]
 | cons q l ih =>
  by_cases h:sLt q.key p.key=true
  ·
   rw [setR_cons h];have hne:=sLt_ne h;simp only [hasP,anyL,qeh] at ih ⊢;rw [ih.1,ih.2];refine ⟨?_,?_⟩
   · rw [← Bool.or_assoc,← Bool.or_assoc,Bool.or_comm (decide (q.key=k))]
   ·
    by_cases h1:q.key=k
    ·
     have:¬ p.key=k:=fun e=>hne (h1.trans e.symm);simp [h1,this]
    · simp [h1]
  ·
   have e0:posP p.key (q::l)=0:=by simp [posP,h]
   by_cases h1:q.key=p.key
   ·
    have:setR (q::l) p=p::l:=by simp [setR,restP,e0,h1]
    rw [this];simp only [hasP,anyL,qeh,h1];refine ⟨?_,?_⟩
    · cases decide (p.key=k)<;>simp
    · split<;>rfl
   ·
    have:setR (q::l) p=p::q::l:=by simp [setR,restP,e0,h1]
    rw [this];simp only [hasP,anyL,qeh];exact ⟨trivial,trivial⟩
theorem setR_keys (l:List Pr) (p:Pr):qcp (setR l p)=qeb (qcp l) p.key:=by
 have hp:=posP_eq p.key l;unfold setR qeb restP;rw [← hp];have hg:(qcp l)[posP p.key l]?=(l[posP p.key l]?).map Pr.key:=by simp [qcp]
 rw [hg];split
 ·
  rename_i h;obtain ⟨q,hq,hk⟩:=Option.map_eq_some_iff.1 h;obtain ⟨hlt,rfl⟩:=List.getElem?_eq_some_iff.1 hq;have e:l=l.take (posP p.key l)++l[posP p.key l]::l.drop (posP p.key l+1):=by
   rw [List.getElem_cons_drop,List.take_append_drop]
  conv=>rhs;rw [e]
  simp only [qcp,List.map_append,List.map_cons,hk]
 · simp [qcp]
structure Sim (s:MS) (m:RM):Prop where
 vars:∀ k,qbt s.vars k=if hasP m.vars k=true then some (qeh m.vars k) else none
 own:∀ k,qbt s.own k=if qcr s.puts k=true then some (qeh m.own k) else none
 keys:qcp m.own=s.puts
 out:m.out=s.out
 reads:m.reads=s.reads
 puts:m.puts=s.puts
 steps:m.steps=s.steps
 st:m.st=0
 code:m.code=0
 miss:m.miss=em
structure Dead (z:Stop) (s:MS) (m:RM):Prop where
 reads:m.reads=s.reads
 puts:m.puts=s.puts
 steps:m.steps=s.steps
 out:m.out=[]
 st:m.st=z.status
 code:m.code=z.code
 miss:m.miss=z.miss
 ne:z.status≠0
theorem Sim.ab {s:MS} {m:RM} (h:Sim s m) (c:Int):Dead (ab c) s (m.ab c):=⟨h.reads,h.puts,h.steps,rfl,rfl,rfl,h.miss,by simp [Go.Cw.ab]⟩
theorem Sim.rst {s:MS} {m:RM} (h:Sim s m) (k:qac):Dead (rst k) s (m.rst k):=⟨h.reads,h.puts,h.steps,rfl,rfl,rfl,rfl,by simp [Go.Cw.rst]⟩
def EvSim (x:EV×MS) (y:V×RM):Prop:=match x.1 with
 | .ok v=>y.1=v∧Sim x.2 y.2
 | .error z=>y.1=V.nil∧Dead z x.2 y.2
theorem EvSim.ok {v:V} {s:MS} {m:RM} (h:Sim s m):EvSim (.ok v,s) (v,m):=⟨rfl,h⟩
theorem EvSim.ab {c:Int} {s:MS} {m:RM} (h:Sim s m):EvSim (.error (ab c),s) (V.nil,m.ab c):=⟨rfl,h.ab c⟩
theorem hasK_with (l:List qac) (k x:qac):qcr (qeb l k) x=(decide (k=x)||qcr l x):=by
 have h:∀ a:Bool,∀ P:Prop,(a=true↔P)→∀ b:Bool,(b=true↔P)→a=b:=by
  intro a P h b g;cases a<;>cases b<;>simp_all
 refine h _ (x=k∨x∈l) (hasK_iff.trans withS_mem) _ ?_;simp only [Bool.or_eq_true,decide_eq_true_eq,hasK_iff];constructor<;>(rintro (rfl | h)<;>simp_all)
section
variable {C:Cfg}
theorem sim_fetch {s:MS} {m:RM} (h:Sim s m) (k:qac):EvSim (qce C k s) (qbi C m k):=by
 unfold qce qbi;split
 · exact .ab h
 have ho:=h.own k;rw [h.puts];by_cases hp:qcr s.puts k=true
 ·
  rw [if_pos hp] at ho;rw [ho,if_pos hp];exact .ok h
 ·
  rw [if_neg hp] at ho;rw [ho,if_neg hp];simp only;split
  · exact ⟨rfl,h.rst k⟩
  · exact ⟨rfl,⟨h.vars,h.own,h.keys,h.out,by simp only [h.reads],rfl,h.steps,h.st,h.code,h.miss⟩⟩
def StSim (x:Except Stop Unit×MS) (m:RM):Prop:=match x.1 with
 | .ok _=>Sim x.2 m
 | .error z=>Dead z x.2 m
theorem sim_store {s:MS} {m:RM} (h:Sim s m) (k:qac) (v:V):StSim (qb6 C k v s) (storeR C m k v):=by
 unfold qb6 storeR;split
 · exact h.ab _
 split
 · exact h.rst k
 ·
  refine ⟨h.vars,fun x=>?_,?_,h.out,h.reads,by simp only [h.puts],h.steps,h.st,h.code,h.miss⟩
  ·
   simp only;rw [qch,(setR_map _ _ _).2,hasK_with];by_cases hx:k=x
   · simp [hx]
   · simp [hx,h.own x]
  ·
   simp only;rw [setR_keys,h.keys]
theorem sim_emit {s:MS} {m:RM} (h:Sim s m) (hl:s.out.length≤16) (v:V):StSim (emitS v s) (emitR m v):=by
 unfold emitS emitR;rw [h.out];by_cases hk:s.out.length=16
 ·
  rw [if_pos hk,if_pos (by omega)];exact h.ab _
 ·
  rw [if_neg hk,if_neg (by omega)];exact ⟨h.vars,h.own,h.keys,by simp only,h.reads,h.puts,h.steps,h.st,h.code,h.miss⟩
theorem sim_tick {s:MS} {m:RM} (h:Sim s m) (hs:s.steps≤16384):StSim (qdq s) (qdr m):=by
 unfold qdq qdr;have e:W64 (m.steps+1)=(s.steps+1:Nat):=by rw [h.steps,W64_id (by omega) (by omega)];simp
 rw [e];have h':Sim { s with steps:=s.steps+1 } { m with steps:=((s.steps+1:Nat):Int) }:=⟨h.vars,h.own,h.keys,h.out,h.reads,h.puts,rfl,h.st,h.code,h.miss⟩
 by_cases hk:16384<s.steps+1
 ·
  rw [if_pos hk,if_pos (by omega)];exact h'.ab 1008
 ·
  rw [if_neg hk,if_neg (by omega)];exact h'
theorem sim_calc {s:MS} {m:RM} (h:Sim s m) (r:Int×Int):EvSim (qcf r,s) (calcR m r):=by
 unfold qcf calcR;by_cases h0:r.2=0
 ·
  rw [if_pos h0,if_neg (by omega),if_neg (by omega)];exact .ok h
 ·
  rw [if_neg h0];by_cases h4:r.2=4
  · rw [if_pos h4,if_pos h4];exact .ab h
  · rw [if_neg h4,if_neg h4,if_pos h0];exact .ab h
theorem okX_1 {v:V} (h:okX v) (hk:v.k=1):v.s=em:=by
 unfold okX varOk valOk at h;simpa [hk] using h
theorem okX_2 {v:V} (h:okX v) (hk:v.k=2):v.n=0∧(v.s.size:Int)≤64:=by
 have:=okX_plain h hk;unfold qa7 at this;unfold okX varOk valOk at h;simp [hk] at h;simp only [Bool.and_eq_true,decide_eq_true_eq] at this;exact ⟨h.1,this.2⟩
theorem okX_3 {v:V} (h:okX v) (hk:v.k=3):v.s=em∧(v.n=0∨v.n=1):=by
 unfold okX varOk at h;simp [hk] at h;exact ⟨h.2,h.1⟩
theorem eqVal_iff (a b:V):eqVal a b=true↔a.k=b.k∧a.n=b.n∧a.s=b.s:=by
 simp [eqVal]
theorem cmpBy_sign {op c d:Int} (h1:c<0↔d<0) (h2:c=0↔d=0):cmpBy op c=cmpBy op d:=by
 unfold cmpBy;have h3:0<c↔0<d:=by omega
 have h4:c≤0↔d≤0:=by omega
 have h5:0≤c↔0≤d:=by omega
 simp only [h1,h2,h3,h4,h5]
theorem cmp_sign {a b:V} (ha:okX a) (hb:okX b) (hk:a.k=b.k) (h:a.k=1∨a.k=2∨a.k=3):(cmpV a b<0↔cmpR a b<0)∧(cmpV a b=0↔cmpR a b=0):=by
 have hc:=cmpS_lt a.s b.s;have hee:=cmpS_lt em em;have hirr:=qcu em;have key:(a.s=b.s∧a.s=em)∨a.n=b.n:=by
  rcases h with h | h | h
  · exact .inl ⟨by rw [okX_1 ha h,okX_1 hb (by omega)],okX_1 ha h⟩
  · exact .inr (by rw [(okX_2 ha h).1,(okX_2 hb (by omega)).1])
  · exact .inl ⟨by rw [(okX_3 ha h).1,(okX_3 hb (by omega)).1],(okX_3 ha h).1⟩
 have e1:=eqVal_iff a b;unfold cmpV cmpR cmpI;rw [if_neg (by omega)];rcases key with ⟨k1,k2⟩ | k
 ·
  have hl:sLt a.s b.s=false:=by rw [← k1,qcu]
  have h0:cmpS a.s b.s=0:=hc.2.2 k1;rw [hl,h0];by_cases hn:a.n=b.n
  ·
   have:eqVal a b=true:=e1.2 ⟨hk,hn,k1⟩;simp [hn,this]
  ·
   have:¬ eqVal a b=true:=fun h=>hn (e1.1 h).2.1;simp only [hn,if_false,this];by_cases h1:a.n<b.n
   · simp [h1]
   ·
    have h2:b.n<a.n:=by omega
    simp [h1,h2]
 ·
  rw [if_pos k];by_cases hl:sLt a.s b.s=true
  ·
   have h1:=hc.1.2 hl;simp only [hl,or_true,if_true];have h2:¬ cmpS a.s b.s=0:=by omega
   simp [h1,h2]
  ·
   have h1:¬ cmpS a.s b.s<0:=fun h=>hl (hc.1.1 h);have h2:¬ a.n<b.n:=by omega
   simp only [hl,or_false];by_cases he:a.s=b.s
   ·
    have h3:=hc.2.2 he;have:eqVal a b=true:=e1.2 ⟨hk,k,he⟩;simp [this,h3,h2]
   ·
    have h3:¬ cmpS a.s b.s=0:=fun h=>he (hc.2.1 h);have:¬ eqVal a b=true:=fun h=>he (e1.1 h).2.2;rw [if_neg (by simp [h2]),if_neg this];exact ⟨⟨fun h=>(h1 h).elim,fun h=>by omega⟩,⟨fun h=>(h3 h).elim,fun h=>by omega⟩⟩
theorem sim_two {s:MS} {m:RM} (h:Sim s m) {op:Int} {a b:V} (ha:okX a) (hb:okX b) (hop:(4≤op∧op≤8)∨(10≤op∧op≤17)∨op=19):EvSim (binS op a b,s) (twoR m op a b):=by
 unfold binS twoR;by_cases h1:op=4∨op=5∨op=6∨op=7∨op=8
 ·
  rw [if_pos h1,if_pos h1];by_cases hk:a.k=1∧b.k=1
  ·
   rw [if_pos hk,if_pos hk];unfold qd9 arithR
   repeat' split
   all_goals exact sim_calc h _
  · rw [if_neg hk,if_neg hk];exact .ab h
 rw [if_neg h1,if_neg h1];by_cases h2:op=16
 ·
  rw [if_pos h2,if_pos h2];split
  · exact .ok h
  · exact .ab h
 rw [if_neg h2,if_neg h2];by_cases h3:op=17
 ·
  rw [if_pos h3,if_pos h3];split
  · exact .ok h
  · exact .ab h
 rw [if_neg h3,if_neg h3];by_cases h4:op=19
 ·
  rw [if_pos h4,if_pos h4];by_cases hk:a.k=2∧b.k=2
  ·
   rw [if_pos hk,if_pos hk];unfold textS;have l1:=(okX_2 ha hk.1).2;have l2:=(okX_2 hb hk.2).2;have e:W64 (a.s.size+b.s.size:Int)=((a.s++b.s).size:Int):=by
    rw [ByteArray.size_append,W64_id (by omega) (by omega)];simp
   rw [e];split
   · exact .ab h
   · exact .ok h
  · rw [if_neg hk,if_neg hk];exact .ab h
 rw [if_neg h4,if_neg h4];unfold compS;by_cases hk:a.k=b.k∧(a.k=1∨a.k=2∨(a.k=3∧op≤11))
 ·
  rw [if_pos hk,if_pos (by omega)];have hc:=cmp_sign ha hb hk.1 (by omega);rw [cmpBy_sign hc.1 hc.2];exact .ok h
 · rw [if_neg hk,if_neg (by omega)];exact .ab h
end
end Go.Cw
