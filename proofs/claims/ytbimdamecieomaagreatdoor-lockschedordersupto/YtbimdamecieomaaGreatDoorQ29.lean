/- Part 29 of a proof: CwLi, CwNr, CwMu, CwX, CwY, CwLj, CwW, CwNs, CwLe, CwLf, CwUb, CwUc, CwZ -/
import Derived.Test.YtbimdamecieomaaGreatDoorQ21
import Derived.Test.YtbimdamecieomaaGreatDoorQ25
import Derived.Test.YtbimdamecieomaaGreatDoorQ26
import Derived.Test.YtbimdamecieomaaGreatDoorQ27
import Derived.Test.YtbimdamecieomaaGreatDoorQ28
set_option linter.all false

namespace Go.Cw
open Go Go.Abs
theorem foldl_cong {α β:Type} {f g:β→α→β}:∀ (l:List α) (b:β),(∀ x∈l,∀ c,f c x=g c x)→l.foldl f b=l.foldl g b
 | [],_,_=>rfl
 | x::l,b,h=>by
  rw [List.foldl_cons,List.foldl_cons,h x (by simp)];exact foldl_cong l _ fun y hy=>h y (by simp [hy])
theorem ascS_nodup {l:List qac} (h:qb7 l):l.Nodup:=h.imp fun h=>sLt_ne h
theorem footK_asc {f:Foot} (h:qbi f.all f.reads f.writes=true):qb7 f.reads∧qb7 f.writes∧(∀ k∈f.reads,qdz k=true)∧(∀ k∈f.writes,qdz k=true)∧f.reads.length≤64∧f.writes.length≤64∧(f.all=true→f.reads=[]∧f.writes=[]):=by
 obtain ⟨a,r,w⟩:=f;unfold qbi at h;cases a with
 | true =>
  simp only [if_true,Bool.and_eq_true,decide_eq_true_eq] at h;obtain ⟨h1,h2⟩:=h;have h1:r=[]:=List.eq_nil_of_length_eq_zero h1;have h2:w=[]:=List.eq_nil_of_length_eq_zero h2;subst h1 h2;simp [qb7]
 | false =>
  simp only [Bool.false_eq_true,if_false,Bool.and_eq_true,decide_eq_true_eq] at h;obtain ⟨⟨h1,h2⟩,h3,h4⟩:=h;obtain ⟨r1,r2,_⟩:=(ascK_iff _ _).1 h1;obtain ⟨w1,w2,_⟩:=(ascK_iff _ _).1 h3;exact ⟨r2,w2,r1,w1,by simp only;omega,by simp only;omega,fun h=>by cases h⟩
def keysW (f:Foot):List qac:=f.writes++f.reads.filter fun k=>!qc8 f.writes k
theorem keysW_nodup {f:Foot} (h:qbi f.all f.reads f.writes=true):(keysW f).Nodup:=by
 obtain ⟨h1,h2,_⟩:=footK_asc h;refine List.nodup_append.2 ⟨ascS_nodup h2,ascS_nodup (h1.filter _),fun a ha b hb e=>?_⟩;subst e;have:=(List.mem_filter.1 hb).2;rw [qb3.2 ha] at this;cases this
theorem keysW_mem {f:Foot} {k:qac}:k∈keysW f↔hasF f k=true:=by
 unfold keysW hasF;rw [List.mem_append,List.mem_filter,Bool.or_eq_true,qb3,qb3];by_cases h:k∈f.writes
 · simp [h]
 ·
  have:qc8 f.writes k=false:=Bool.eq_false_iff.2 fun e=>h (qb3.1 e);simp [h,this]
theorem keysW_len {f:Foot} (h:qbi f.all f.reads f.writes=true):(keysW f).length≤128:=by
 obtain ⟨_,_,_,_,h1,h2,_⟩:=footK_asc h;unfold keysW;rw [List.length_append];have:=List.length_filter_le (fun k=>!qc8 f.writes k) f.reads;omega
def reqQ (n:Int) (f:Foot) (qs:List LQ):List LQ:=f.reads.foldl (fun l k=>if qc8 f.writes k=true then l else addQ k ⟨n,false⟩ l) (f.writes.foldl (fun l k=>addQ k ⟨n,true⟩ l) qs)
theorem reqQ_adds (n:Int) (f:Foot) (qs:List LQ):reqQ n f qs=addsQ (fun k=>⟨n,qc8 f.writes k⟩) (keysW f) qs:=by
 unfold reqQ addsQ keysW;rw [List.foldl_append,List.foldl_filter];have e1:f.writes.foldl (fun l k=>addQ k ⟨n,true⟩ l) qs=f.writes.foldl (fun l k=>addQ k ⟨n,qc8 f.writes k⟩ l) qs:=foldl_cong _ _ fun k hk c=>by rw [qb3.2 hk]
 rw [e1];refine foldl_cong _ _ fun k hk c=>?_;rcases h:qc8 f.writes k with _ | _<;>simp [h]
section
variable {fs:Nat→Foot} {R:List Nat} {T:LT}
theorem req_tab (h:TabOk fs R T) {n:Nat} (hf:qbi (fs n).all (fs n).reads (fs n).writes=true):TabOk fs (R++[n]) ⟨T.glob++[⟨(n:Int),(fs n).all⟩],reqQ n (fs n) T.qs⟩:=by
 rw [reqQ_adds];exact tab_add h (keysW_nodup hf) fun k=>keysW_mem
theorem ascQ_map (w:Nat→Bool):∀ (R:List Nat) (p:Option Int),R.Pairwise (· < ·)→(∀ i∈R,∀ x,p=some x→x<(i:Int))→ascQ p (R.map fun (i:Nat)=>⟨(i:Int),w i⟩)=true
 | [],_,_,_=>rfl
 | i::R,p,h,hp=>by
  obtain ⟨h1,h2⟩:=List.pairwise_cons.1 h;have ih:=ascQ_map w R (some (i:Int)) h2 fun j hj x hx=>by cases hx;have:=h1 j hj;omega
  rw [List.map_cons,ascQ,ih,Bool.and_true,Bool.and_eq_true];refine ⟨by simp,?_⟩;cases p with
  | none=>rfl
  | some x=>exact decide_eq_true (hp i (by simp) x rfl)
theorem inG_map (w:Nat→Bool) {i:Nat}:∀ (R:List Nat),i∈R→w i=false→inG (R.map fun (j:Nat)=>⟨(j:Int),w j⟩) (i:Int)=true
 | [],h,_=>by cases h
 | j::R,h,hw=>by
  by_cases e:j=i
  ·
   subst e;unfold inG;rw [List.map_cons,List.find?_cons_of_pos (by simp)];simp [hw]
  ·
   have e':¬ (j:Int)=(i:Int):=by omega
   have hm:i∈R:=(List.mem_cons.1 h).resolve_left fun g=>e g.symm;have ih:=inG_map w R hm hw;unfold inG at ih ⊢;rw [List.map_cons,List.find?_cons_of_neg (by simp [e'])];exact ih
theorem qsOk_of {g:List LReq}:∀ (l:List LQ) (k:Option qac),qb7 (qbg l)→(∀ p,k=some p→∀ x∈qbg l,sLt p x=true)→(∀ q∈l,qdz q.key=true∧q.reqs≠[]∧ascQ none q.reqs=true∧∀ r∈q.reqs,inG g r.t=true)→qsOk g k l=true
 | [],_,_,_,_=>rfl
 | q::l,k,h,hk,hq=>by
  obtain ⟨h1,h2⟩:=List.pairwise_cons.1 h;obtain ⟨q1,q2,q3,q4⟩:=hq q (by simp);have ih:=qsOk_of l (some q.key) h2 (fun p hp x hx=>by cases hp;exact h1 x hx) fun x hx=>hq x (by simp [hx]);have h5:after k q.key=true:=by
   cases k with
   | none=>rfl
   | some p=>exact hk p rfl _ (by simp)
  have h6:q.reqs.isEmpty=false:=by
   rcases e:q.reqs with _ | ⟨x,m⟩
   · exact (q2 e).elim
   · rfl
  rw [qsOk,q1,h5,h6,q3,ih,List.all_eq_true.2 q4];rfl
theorem tab_valid (h:TabOk fs R T) (hR:R.Pairwise (· < ·)) (hf:∀ i∈R,qbi (fs i).all (fs i).reads (fs i).writes=true):validT T=true:=by
 unfold validT;rw [Bool.and_eq_true];constructor
 ·
  rw [h.glob];exact ascQ_map (fun i=>(fs i).all) R none hR fun _ _ _ e=>by cases e
 ·
  refine qsOk_of T.qs none h.asc (fun _ e=>by cases e) fun q hq=>?_;obtain ⟨e1,e2⟩:=(h.mem q).1 hq;have hin:∀ i∈R,hasF (fs i) q.key=true→qdz q.key=true∧(fs i).all=false:=fun i hi hh=>by
   obtain ⟨_,_,f3,f4,_,_,f7⟩:=footK_asc (hf i hi);unfold hasF at hh;rw [Bool.or_eq_true,qb3,qb3] at hh;refine ⟨hh.elim (f4 _) (f3 _),?_⟩;rcases ha:(fs i).all with _ | _
   · rfl
   ·
    obtain ⟨g1,g2⟩:=f7 ha;rw [g1,g2] at hh;simp at hh
  have hmem:∀ r∈q.reqs,∃ i∈R,hasF (fs i) q.key=true∧r.t=(i:Int):=fun r hr=>by
   rw [e1] at hr;unfold rq at hr;obtain ⟨i,hi,rfl⟩:=List.mem_map.1 hr;obtain ⟨a,b⟩:=List.mem_filter.1 hi;exact ⟨i,a,b,rfl⟩
  refine ⟨?_,e2,?_,fun r hr=>?_⟩
  ·
   obtain ⟨r,hr⟩:=List.exists_mem_of_ne_nil _ e2;obtain ⟨i,a,b,_⟩:=hmem r hr;exact (hin i a b).1
  ·
   rw [e1];exact ascQ_map (fun i=>qc8 (fs i).writes q.key) _ none (hR.filter _) fun _ _ _ e=>by cases e
  ·
   obtain ⟨i,a,b,c⟩:=hmem r hr;rw [c,h.glob];exact inG_map (fun i=>(fs i).all) R a (hin i a b).2
abbrev reqN (qs:List LQ):Nat:=(qs.map fun q=>q.reqs.length).sum
theorem addQ_reqN {k:qac} {r:LReq}:∀ (l:List LQ),reqN (addQ k r l)=reqN l+1
 | []=>by simp [addQ,reqN]
 | q::l=>by
  have ih:=addQ_reqN (k:=k) (r:=r) l;rw [addQ];split
  · simp only [reqN,List.map_cons,List.sum_cons] at ih ⊢;omega
  ·
   split
   · simp only [reqN,List.map_cons,List.sum_cons,List.length_append,List.length_singleton];omega
   · simp only [reqN,List.map_cons,List.sum_cons,List.length_singleton];omega
theorem addsQ_reqN {r:qac→LReq}:∀ (ks:List qac) (l:List LQ),reqN (addsQ r ks l)=reqN l+ks.length
 | [],l=>rfl
 | k::ks,l=>by
  have e:addsQ r (k::ks) l=addsQ r ks (addQ k (r k) l):=rfl;rw [e,addsQ_reqN ks,addQ_reqN,List.length_cons];omega
theorem dropQ_length (t:Int) (l:List LReq):(dropQ t l).length≤l.length:=List.length_filter_le _ _
theorem relQ_reqN (t:Int):∀ (l:List LQ),reqN (relQ t l)≤reqN l
 | []=>Nat.le_refl _
 | q::l=>by
  have ih:=relQ_reqN t l;have h:=dropQ_length t q.reqs;rw [relQ];split
  · simp only [reqN,List.map_cons,List.sum_cons] at ih ⊢;omega
  · simp only [reqN,List.map_cons,List.sum_cons] at ih ⊢;omega
theorem reqs_le:∀ {l:List LQ} {q:LQ},q∈l→q.reqs.length≤reqN l
 | x::l,q,h=>by
  simp only [reqN,List.map_cons,List.sum_cons];rcases List.mem_cons.1 h with rfl | h
  · omega
  ·
   have:=reqs_le h;simp only [reqN] at this;omega
theorem qs_le:∀ {l:List LQ},(∀ q∈l,q.reqs≠[])→l.length≤reqN l
 | [],_=>Nat.le_refl _
 | x::l,h=>by
  have ih:=qs_le fun q hq=>h q (List.mem_cons_of_mem _ hq);have h1:=List.length_pos_iff.2 (h x (by simp));simp only [reqN,List.map_cons,List.sum_cons,List.length_cons] at ih ⊢;omega
theorem flat_len (t:Int):∀ (qs:List LQ),(qs.flatMap fun q=>befQ t q.reqs).length≤reqN qs
 | []=>Nat.le_refl _
 | q::l=>by
  have h1:=befQ_len t q.reqs;have h2:=flat_len t l;simp only [List.flatMap_cons,List.length_append,reqN,List.map_cons,List.sum_cons] at h2 ⊢;omega
theorem reqN_take {qs:List LQ} {n:Nat} (h:n<qs.length):reqN (qs.take n)+qs[n].reqs.length≤reqN qs:=by
 have h1:qs=qs.take n++qs[n]::qs.drop (n+1):=by rw [← List.drop_eq_getElem_cons h,List.take_append_drop]
 have h2:reqN qs=reqN (qs.take n++qs[n]::qs.drop (n+1)):=by rw [← h1]
 rw [h2];simp only [reqN,List.map_append,List.map_cons,List.sum_append,List.sum_cons];omega
theorem glob_idx (h:TabOk fs R T) (n:Nat):(n∉R→qcp (fun x:LReq=>decide (x.t=(n:Int))) T.glob = -1)∧(n∈R→0≤qcp (fun x:LReq=>decide (x.t=(n:Int))) T.glob):=by
 rw [h.glob];rcases idxR_find (fun x:LReq=>decide (x.t=(n:Int))) (R.map fun (i:Nat)=>⟨(i:Int),(fs i).all⟩) with ⟨h1,h2⟩ | ⟨m,hm,h1,h2⟩
 ·
  refine ⟨fun _=>h1,fun hn=>?_⟩;have:=List.find?_eq_none.1 h2 _ (List.mem_map.2 ⟨n,hn,rfl⟩);simp at this
 ·
  refine ⟨fun hn=>?_,fun _=>by omega⟩;have h3:=List.find?_some h2;have h4:=List.mem_of_find?_eq_some h2;obtain ⟨i,hi,e⟩:=List.mem_map.1 h4;rw [← e] at h3;simp only [decide_eq_true_eq] at h3;have:i=n:=by omega
  exact (hn (this▸hi)).elim
end
def fE (fs:List Foot) (i:Nat):Foot:=effF (fs.getD i ⟨true,[],[]⟩)
theorem fE_ok (fs:List Foot) (i:Nat):qbi (fE fs i).all (fE fs i).reads (fE fs i).writes=true:=effF_ok _
theorem fE_get {fs:List Foot} {i:Nat} (h:i<fs.length):fE fs i=effF fs[i]:=by
 unfold fE;rw [List.getD_eq_getElem?_getD,List.getElem?_eq_getElem h];rfl
def reqT (fs:List Foot):Nat→LT
 | 0=>⟨[],[]⟩
 | n+1=>⟨(reqT fs n).glob++[⟨(n:Int),(fE fs n).all⟩],reqQ n (fE fs n) (reqT fs n).qs⟩
structure TabIn (fs:List Foot) (R:List Nat) (T:LT):Prop where
 tab:TabOk (fE fs) R T
 asc:R.Pairwise (· < ·)
 sz:reqN T.qs≤128 * fs.length
 lt:∀ i∈R,i<fs.length
theorem ascN_len {R:List Nat} {N:Nat} (h1:R.Pairwise (· < ·)) (h2:∀ i∈R,i<N):R.length≤N:=by
 have:=nodup_sub R (List.range N) (h1.imp fun h=>Nat.ne_of_lt h) fun x hx=>List.mem_range.2 (h2 x hx)
 rwa [List.length_range] at this
section
variable {fs:List Foot} {R:List Nat} {T:LT}
theorem TabIn.valid (h:TabIn fs R T):validT T=true:=tab_valid h.tab h.asc fun i _=>fE_ok fs i
theorem TabIn.globLen (h:TabIn fs R T):T.glob.length≤fs.length:=by
 rw [h.tab.glob,List.length_map];exact ascN_len h.asc h.lt
theorem TabIn.qsLen (h:TabIn fs R T):T.qs.length≤128 * fs.length:=Nat.le_trans (qs_le fun q hq=>((h.tab.mem q).1 hq).2) h.sz
theorem TabIn.reqsLen (h:TabIn fs R T):∀ x∈T.qs,x.reqs.length≤128 * fs.length:=fun x hx=>Nat.le_trans (reqs_le hx) h.sz
theorem reqT_ok (fs:List Foot):∀ n,TabOk (fE fs) (List.range n) (reqT fs n)∧reqN (reqT fs n).qs≤128 * n
 | 0=>⟨tab_nil _,by simp [reqT,reqN]⟩
 | n+1=>by
  obtain ⟨h1,h2⟩:=reqT_ok fs n;refine ⟨?_,?_⟩
  ·
   rw [List.range_succ];exact req_tab h1 (fE_ok fs n)
  ·
   have h3:=keysW_len (fE_ok fs n);have e:(reqT fs (n+1)).qs=reqQ n (fE fs n) (reqT fs n).qs:=rfl;rw [e,reqQ_adds,addsQ_reqN];omega
theorem reqT_in (fs:List Foot) (n:Nat) (h:n≤fs.length):TabIn fs (List.range n) (reqT fs n):=by
 obtain ⟨h1,h2⟩:=reqT_ok fs n;exact ⟨h1,List.pairwise_lt_range,by omega,fun i hi=>by have:=List.mem_range.1 hi;omega⟩
theorem reqT_pre (fs:List Foot) (n:Nat):qcp (fun x:LReq=>decide (x.t=(n:Int))) (reqT fs n).glob = -1∧∀ x∈(reqT fs n).glob,x.t≤n:=by
 obtain ⟨h1,_⟩:=reqT_ok fs n;refine ⟨(glob_idx h1 n).1 (by simp),fun x hx=>?_⟩;rw [h1.glob] at hx;obtain ⟨i,hi,rfl⟩:=List.mem_map.1 hx;have:=List.mem_range.1 hi;simp only;omega
def stepT (fs:List Foot) (o:List Nat):LT:=o.foldl (fun T (j:Nat)=>relT j T) (reqT fs fs.length)
theorem stepT_snoc (fs:List Foot) (o:List Nat) (j:Nat):stepT fs (o++[j])=relT j (stepT fs o):=by
 unfold stepT;rw [List.foldl_append];rfl
theorem leftR_nil (n:Nat):leftR n []=List.range n:=by simp [leftR]
theorem TabIn.rel (h:TabIn fs R T) (j:Nat):TabIn fs (R.filter fun i=>!decide (i=j)) (relT j T) :=
 ⟨tab_rel h.tab j,h.asc.filter _,Nat.le_trans (relQ_reqN j T.qs) h.sz,fun i hi=>h.lt i (List.mem_filter.1 hi).1⟩
theorem stepT_in (fs:List Foot) (o:List Nat):TabIn fs (leftR fs.length o) (stepT fs o):=by
 have:∀ m,TabIn fs (leftR fs.length (o.take m)) (stepT fs (o.take m)):=fun m=>by
  induction m with
  | zero =>
   rw [List.take_zero,leftR_nil];exact reqT_in fs fs.length (Nat.le_refl _)
  | succ m ih =>
   by_cases hm:m<o.length
   ·
    rw [List.take_succ_eq_append_getElem hm,stepT_snoc,← leftR_snoc];exact ih.rel _
   ·
    rw [List.take_of_length_le (by omega)] at ih ⊢;exact ih
 have:=this o.length
 rwa [List.take_length] at this
theorem stepT_ready (fs:List Foot) (o:List Nat):readyL (stepT fs o)=(lkCand fs o).map Int.ofNat:=by
 have h:=stepT_in fs o;rw [ready_eq h.tab h.asc fun i _=>fE_ok fs i,cand_left fs o (fE fs) fun i hi=>fE_get hi]
theorem leg_take {fs:List Foot} {o:List Nat} (h:Leg fs o) (n:Nat):Leg fs (o.take n):=by
 induction h with
 | nil=>rw [List.take_nil];exact .nil
 | @snoc o j h hj hno hc ih =>
  by_cases hn:n≤o.length
  · rw [List.take_append_of_le_length hn];exact ih
  · rw [List.take_of_length_le (by simp;omega)];exact .snoc h hj hno hc
end
end Go.Cw

namespace Go.Cw
open Go Go.Abs
end Go.Cw

namespace Go.Cw
open Go Go.Abs
section
variable {fmt:Int→qac} {procs:List Proc} {s:List Pr} {l:List Txn} {effs:List Eff} {done:List Bool}
theorem choice_iff {choices:List Int} {step n:Nat}:choiceS choices step n=if h:step<choices.length then (if choices[step]<0 then 0 else choices[step].toNat % n) else 0:=by
 unfold choiceS;by_cases h:step<choices.length
 · rw [dif_pos h,List.getElem?_eq_getElem h]
 · rw [dif_neg h,List.getElem?_eq_none (by omega)]
end
end Go.Cw

namespace Go.Cw
open Go Go.Abs
structure RM where
 vars:List Pr
 own:List Pr
 st:Int
 code:Int
 out:List V
 reads:List qac
 puts:List qac
 miss:qac
 steps:Int
def RM.c (C:Cfg) (m:RM):List AV:=[.slice (C.state.map Pr.c),Bo C.all,.slice (C.rd.map qbf),.slice (C.wr.map qbf),.slice (m.vars.map Pr.c),.slice (m.own.map Pr.c),I m.st,I m.code,.slice (m.out.map V.c),.slice (m.reads.map qbf),.slice (m.puts.map qbf),.slice [],S m.miss,I m.steps]
def RM.ab (m:RM) (c:Int):RM:={ m with st:=2,code:=c,out:=[] }
def RM.rst (m:RM) (k:qac):RM:={ m with st:=3,code:=0,out:=[],miss:=k }
def restP (l:List Pr) (k:qac):Nat:=if (l[posP k l]?).map Pr.key=some k then posP k l+1 else posP k l
def setR (l:List Pr) (p:Pr):List Pr:=l.take (posP p.key l)++p::l.drop (restP l p.key)
def storeR (C:Cfg) (m:RM) (k:qac) (v:V):RM :=
 if qdz k=false then m.ab 1004
 else if C.all=false∧qc8 C.wr k=false then m.rst k
 else { m with puts:=withS m.puts k,own:=setR m.own ⟨k,v⟩ }
def emitR (m:RM) (v:V):RM:=if 16≤(m.out.length:Int) then m.ab 1007 else { m with out:=m.out++[v] }
section
variable (C:Cfg)
end
end Go.Cw

namespace Go.Cw
open Go Go.Abs
theorem qd0 {α:Type}:∀ (l:List (qac×α)) (s k:qac) (v:α),qcu (qda l s v) k=if s=k then some v else qcu l k
 | [],s,k,v=>by simp only [qda,qcu]
 | p::l,s,k,v=>by
  rw [qda];split
  ·
   rename_i h;rw [qcu,qcu];subst h;split<;>rfl
  ·
   rename_i h;rw [qcu,qd0 l s k v,qcu];split
   ·
    rename_i h2;subst h2;rw [if_neg (fun e=>h e.symm)]
   · rfl
theorem cmpL_lt:∀ (a b:List UInt8),(Go.Lib.compareBytes a b<0↔Op.bytesLess a b=true)∧(Go.Lib.compareBytes a b=0↔a=b)
 | [],[]=>by simp [Go.Lib.compareBytes,Op.bytesLess]
 | [],_::_=>by simp [Go.Lib.compareBytes,Op.bytesLess]
 | _::_,[]=>by simp [Go.Lib.compareBytes,Op.bytesLess]
 | x::a,y::b=>by
  have ih:=cmpL_lt a b;simp only [Go.Lib.compareBytes,Op.bytesLess,List.cons.injEq];split
  ·
   rename_i h;have:x≠y:=by rintro rfl;exact absurd h (by simp)
   simp [h,this]
  ·
   rename_i h;split
   ·
    rename_i h2;have:x≠y:=by rintro rfl;exact absurd h2 (by simp)
    simp [h,this]
   ·
    rename_i h2;have:x=y:=by
     apply UInt8.toNat_inj.1;have h3:¬ x.toNat<y.toNat:=h;have h4:¬ y.toNat<x.toNat:=h2;omega
    subst this;simp [ih]
theorem cmpS_lt (a b:qac):(cmpS a b<0↔sLt a b=true)∧(cmpS a b=0↔a=b):=by
 have h:=cmpL_lt a.data.toList b.data.toList;have e:∀ x:qac,x.toList=x.data.toList:=fun x=>by simp [ByteArray.toList_eq]
 refine ⟨?_,?_⟩
 ·
  unfold cmpS sLt;rw [e,e];exact h.1
 ·
  unfold cmpS;rw [h.2];constructor
  ·
   intro he;have:a.data=b.data:=Array.toList_inj.1 he;cases a;cases b;simp_all
  · rintro rfl;rfl
theorem setR_cons {p q:Pr} {l:List Pr} (h:sLt q.key p.key=true):setR (q::l) p=q::setR l p:=by
 unfold setR restP;simp only [posP,h,if_true,List.take_succ_cons,List.getElem?_cons_succ,List.cons_append];split<;>simp
theorem setR_map (l:List Pr) (p:Pr) (k:qac):hasP (setR l p) k=(decide (p.key=k)||hasP l k)∧getP (setR l p) k=if p.key=k then p.v else getP l k:=by
 induction l with
 | nil=>simp [setR,restP,posP,hasP,anyL,getP]
 | cons q l ih =>
  by_cases h:sLt q.key p.key=true
  ·
   rw [setR_cons h];have hne:=sLt_ne h;simp only [hasP,anyL,getP] at ih ⊢;rw [ih.1,ih.2];refine ⟨?_,?_⟩
   · rw [← Bool.or_assoc,← Bool.or_assoc,Bool.or_comm (decide (q.key=k))]
   ·
    by_cases h1:q.key=k
    ·
     have:¬ p.key=k:=fun e=>hne (h1.trans e.symm);simp [h1,this]
    · simp [h1]
  ·
   have e0:posP p.key (q::l)=0:=by simp [posP,h]
   by_cases h1:q.key=p.key
   ·
    have:setR (q::l) p=p::l:=by simp [setR,restP,e0,h1]
    rw [this];simp only [hasP,anyL,getP,h1];refine ⟨?_,?_⟩
    · cases decide (p.key=k)<;>simp
    · split<;>rfl
   ·
    have:setR (q::l) p=p::q::l:=by simp [setR,restP,e0,h1]
    rw [this];simp only [hasP,anyL,getP];exact ⟨trivial,trivial⟩
structure Sim (s:MS) (m:RM):Prop where
 vars:∀ k,qcu s.vars k=if hasP m.vars k=true then some (getP m.vars k) else none
 own:∀ k,qcu s.own k=if qc8 s.puts k=true then some (getP m.own k) else none
 keys:qco m.own=s.puts
 out:m.out=s.out
 reads:m.reads=s.reads
 puts:m.puts=s.puts
 steps:m.steps=s.steps
 st:m.st=0
 code:m.code=0
 miss:m.miss=em
structure Dead (z:Stop) (s:MS) (m:RM):Prop where
 reads:m.reads=s.reads
 puts:m.puts=s.puts
 steps:m.steps=s.steps
 out:m.out=[]
 st:m.st=z.status
 code:m.code=z.code
 miss:m.miss=z.miss
 ne:z.status≠0
theorem Sim.ab {s:MS} {m:RM} (h:Sim s m) (c:Int):Dead (ab c) s (m.ab c):=⟨h.reads,h.puts,h.steps,rfl,rfl,rfl,h.miss,by simp [Go.Cw.ab]⟩
theorem Sim.rst {s:MS} {m:RM} (h:Sim s m) (k:qac):Dead (rst k) s (m.rst k):=⟨h.reads,h.puts,h.steps,rfl,rfl,rfl,rfl,by simp [Go.Cw.rst]⟩
def EvSim (x:EV×MS) (y:V×RM):Prop:=match x.1 with
 | .ok v=>y.1=v∧Sim x.2 y.2
 | .error z=>y.1=V.nil∧Dead z x.2 y.2
theorem EvSim.ok {v:V} {s:MS} {m:RM} (h:Sim s m):EvSim (.ok v,s) (v,m):=⟨rfl,h⟩
theorem EvSim.ab {c:Int} {s:MS} {m:RM} (h:Sim s m):EvSim (.error (ab c),s) (V.nil,m.ab c):=⟨rfl,h.ab c⟩
section
variable {C:Cfg}
end
end Go.Cw

namespace Go.Cw
open Go Go.Abs
structure LsStep (fs:List Foot) (choices:List Int) (n j q:Nat):Prop where
 ne:0<(lkCand fs (qdy fs choices n)).length
 ch:choiceS choices n (lkCand fs (qdy fs choices n)).length=q
 lq:q<(lkCand fs (qdy fs choices n)).length
 get:(lkCand fs (qdy fs choices n))[q]?=some j
 lt:j<fs.length
 left:j∈leftR fs.length (qdy fs choices n)
 nxt:qdy fs choices (n+1)=qdy fs choices n++[j]
theorem ls_step {fs:List Foot} {choices:List Int} {n:Nat} (h:n<fs.length):∃ j q,LsStep fs choices n j q:=by
 obtain ⟨i1,i2⟩:=lk_leg fs choices n (by omega);have hne:=lk_cand_ne i1 (by omega);have hlt:=choice_lt (choices:=choices) (step:=n) hne;have hm:=List.getElem_mem hlt;have hg:=List.getElem?_eq_getElem hlt;obtain ⟨j,hj⟩:∃ j,(lkCand fs (qdy fs choices n))[choiceS choices n (lkCand fs (qdy fs choices n)).length]=j:=⟨_,rfl⟩
 rw [hj] at hm hg;have hm2:=hm;unfold lkCand at hm2;obtain ⟨m1,m2⟩:=List.mem_filter.1 hm2;have hlj:=List.mem_range.1 m1;refine ⟨j,_,hne,rfl,hlt,hg,hlj,?_,?_⟩
 ·
  unfold leftR;refine List.mem_filter.2 ⟨m1,?_⟩;rw [Bool.and_eq_true] at m2;exact m2.1
 ·
  show qdy fs choices n++[_]=_;rw [List.getD_eq_getElem?_getD,hg];rfl
section
variable {fmt:Int→qac} {procs:List Proc} {s:List Pr} {l:List Txn} {choices:List Int}
def lsX (fmt:Int→qac) (procs:List Proc) (s:List Pr) (l:List Txn) (choices:List Int) (n:Nat):List Pr×List Eff:=exO fmt procs s l (qdy (ftsL l) choices n)
theorem lsX_zero:lsX fmt procs s l choices 0=(s,List.replicate l.length zeroE):=rfl
theorem fts_len (l:List Txn):(ftsL l).length=l.length:=by simp
theorem lsX_succ {n j q:Nat} (h:LsStep (ftsL l) choices n j q) (hj:j<l.length):lsX fmt procs s l choices (n+1)=((oneS fmt procs (lsX fmt procs s l choices n).1 l[j]).1,(lsX fmt procs s l choices n).2.set j (oneS fmt procs (lsX fmt procs s l choices n).1 l[j]).2):=by
 unfold lsX;rw [h.nxt,exO_snoc,exN_get hj]
theorem lsX_ok (hB:BatchIn fmt procs l) (hs:rngL s) (n:Nat) (h:n≤l.length):rngL (lsX fmt procs s l choices n).1∧(lsX fmt procs s l choices n).1.length≤s.length+64 * n∧(lsX fmt procs s l choices n).2.length=l.length∧(qdy (ftsL l) choices n).length=n:=by
 obtain ⟨h1,h2⟩:=lk_leg (ftsL l) choices n (by simpa using h);have h3:=ex_ok (fmt:=fmt) (procs:=procs) (s:=s) hB hs h1;have h4:=h3.len;rw [h2] at h4;exact ⟨h3.rng,h4,h3.cnt,h2⟩
theorem lsX_serial (hB:BatchIn fmt procs l) (hs:rngL s):lsX fmt procs s l choices l.length=qa5 fmt procs s l:=by
 obtain ⟨h1,h2⟩:=lk_leg (ftsL l) choices l.length (by simp);exact ex_serial hB hs h1 (by rw [h2])
def rpX (fmt:Int→qac) (procs:List Proc) (s:List Pr) (l:List Txn) (order:List Int) (n:Nat):List Pr×List Eff:=exO fmt procs s l ((order.map Int.toNat).take n)
theorem rpX_zero {order:List Int}:rpX fmt procs s l order 0=(s,List.replicate l.length zeroE):=rfl
theorem legal_lt {fs:List Foot} {order:List Int} (h:qcs fs order=true) {n:Nat} (hn:n<order.length):order[n].toNat<fs.length∧0≤order[n]:=by
 obtain ⟨⟨h1,h2,h3⟩,h4⟩:=qdm.1 h;have:=h2 _ (List.getElem_mem hn);omega
theorem rpX_succ {order:List Int} {n:Nat} (hn:n<order.length) (hj:order[n].toNat<l.length):rpX fmt procs s l order (n+1)=((oneS fmt procs (rpX fmt procs s l order n).1 l[order[n].toNat]).1,(rpX fmt procs s l order n).2.set order[n].toNat (oneS fmt procs (rpX fmt procs s l order n).1 l[order[n].toNat]).2):=by
 unfold rpX;rw [List.take_succ_eq_append_getElem (by simpa using hn),exO_snoc,List.getElem_map,exN_get hj]
theorem rpX_ok (hB:BatchIn fmt procs l) (hs:rngL s) {order:List Int} (ho:qcs (ftsL l) order=true) (n:Nat) (h:n≤order.length):rngL (rpX fmt procs s l order n).1∧(rpX fmt procs s l order n).1.length≤s.length+64 * n∧(rpX fmt procs s l order n).2.length=l.length:=by
 have h3:=ex_ok (fmt:=fmt) (procs:=procs) (s:=s) hB hs (leg_take (legal_leg ho).1 n);have h4:=h3.len;rw [List.length_take,List.length_map,Nat.min_eq_left h] at h4;exact ⟨h3.rng,h4,h3.cnt⟩
theorem rpX_serial (hB:BatchIn fmt procs l) (hs:rngL s) {order:List Int} (ho:qcs (ftsL l) order=true):rpX fmt procs s l order order.length=qa5 fmt procs s l:=by
 unfold rpX;rw [List.take_of_length_le (by simp)];exact ex_serial hB hs (legal_leg ho).1 (by rw [List.length_map,(legal_leg ho).2,fts_len])
end
abbrev lsOrd (l:List Txn) (choices:List Int) (n:Nat):List Int:=(qdy (ftsL l) choices n).map Int.ofNat
def fillN {α β:Type} (z:α) (f:β→α) (l:List β) (n:Nat):List α:=(l.take n).map f++List.replicate (l.length - n) z
theorem fill_len {α β:Type} {z:α} {f:β→α} {l:List β} {n:Nat} (h:n≤l.length):(fillN z f l n).length=l.length:=by
 unfold fillN;rw [List.length_append,List.length_map,List.length_take,List.length_replicate];omega
theorem fill_zero {α β:Type} {z:α} {f:β→α} {l:List β}:fillN z f l 0=List.replicate l.length z:=by simp [fillN]
theorem fill_all {α β:Type} {z:α} {f:β→α} {l:List β}:fillN z f l l.length=l.map f:=by simp [fillN]
theorem fill_set {α β:Type} {z:α} {f:β→α} {l:List β} {n:Nat} (h:n<l.length):(fillN z f l n).set n (f l[n])=fillN z f l (n+1):=by
 have h1:l.length - n=(l.length - (n+1))+1:=by omega
 have h2:((l.take n).map f).length=n:=by rw [List.length_map,List.length_take];omega
 unfold fillN;rw [List.take_succ_eq_append_getElem h,List.map_append,h1,List.replicate_succ,List.set_append_right _ _ (by omega),h2,Nat.sub_self,List.set_cons_zero,List.append_assoc];rfl
theorem conf_eff (fs:List Foot) (i j:Nat):qc4 (fs.map effF) i j=qc4 fs i j:=by
 unfold qc4;rw [List.getElem?_map,List.getElem?_map];rcases fs[i]? with _ | x<;>rcases fs[j]? with _ | y<;>simp [conflS_eff]
theorem legal_eff (fs:List Foot) (order:List Int):qcs (fs.map effF) order=qcs fs order:=by
 rw [Bool.eq_iff_iff,qdm,qdm,List.length_map];simp only [conf_eff]
theorem lk_legal (fs:List Foot) (choices:List Int):qcs fs ((qdy fs choices fs.length).map Int.ofNat)=true:=by
 obtain ⟨h1,h2⟩:=lk_leg fs choices fs.length (Nat.le_refl _);exact leg_legal h1 h2
end Go.Cw

namespace Go.Cw
open Go Go.Abs
section
variable {fmt:Int→qac}
theorem round_next {procs:List Proc} {s:List Pr} {l:List Txn} {n:Nat} (h:n<l.length):qa5 fmt procs s (l.take (n+1))=((oneS fmt procs (qa5 fmt procs s (l.take n)).1 l[n]).1,(qa5 fmt procs s (l.take n)).2++[(oneS fmt procs (qa5 fmt procs s (l.take n)).1 l[n]).2]):=by
 rw [List.take_succ_eq_append_getElem h,round_snoc]
theorem runIn_one {procs:List Proc} {l:List Txn} {s:List Pr} (hB:BatchIn fmt procs l) (hs:rngL s) {t:Txn} (ht:t∈l):∀ p,findP procs t=some p→RunIn fmt p t.args s:=fun p hp=>⟨hB.fmt,hB.body p (findP_mem hp).1,hB.args t ht,hs⟩
theorem round_stepState {procs:List Proc} {s:List Pr} {l:List Txn} (hs:rngL s) (hB:BatchIn fmt procs l) (n:Nat) (h:n≤l.length):rngL (qa5 fmt procs s (l.take n)).1∧(qa5 fmt procs s (l.take n)).1.length≤s.length+64 * n∧(qa5 fmt procs s (l.take n)).2.length=n:=by
 have h2:=round_ok hs (l.take n) (hB.take n);have h3:=h2.len;have h4:=h2.cnt;rw [List.length_take,Nat.min_eq_left h] at h3 h4;exact ⟨h2.rng,h3,h4⟩
end
end Go.Cw

namespace Go.Cw
open Go Go.Abs
def mN (L n:Nat):List Int:=List.replicate n (-1)++List.replicate (L - n) 0
theorem mN_len {L n:Nat} (h:n≤L):(mN L n).length=L:=by simp [mN];omega
theorem mN_0 (L:Nat):mN L 0=List.replicate L 0:=by simp [mN]
theorem mN_end (L:Nat):mN L L=List.replicate L (-1):=by simp [mN]
theorem mN_set {L n:Nat} (h:n<L):(mN L n).set n (-1)=mN L (n+1):=by
 unfold mN;obtain ⟨k,hk⟩:∃ k,L - n=k+1:=⟨L - n - 1,by omega⟩
 rw [hk,show L - (n+1)=k by omega,List.replicate_succ,List.replicate_succ'];simp [List.set_append]
theorem filter1 {α:Type} (p:α→Bool) (x:α):([x].filter p).length=if p x=true then 1 else 0:=by
 by_cases h:p x=true<;>simp [h]
def cI (m:List Int) (C:Nat→Nat→Bool) (j i:Nat):Nat:=((List.range i).filter fun i=>decide (m.getD j (-1)<m.getD i (-1))&&C i j).length
theorem cI_0 (m:List Int) (C:Nat→Nat→Bool) (j:Nat):cI m C j 0=0:=by simp [cI]
theorem cI_succ (m:List Int) (C:Nat→Nat→Bool) (j i:Nat):cI m C j (i+1)=cI m C j i+if (decide (m.getD j (-1)<m.getD i (-1))&&C i j)=true then 1 else 0:=by
 unfold cI;rw [List.range_succ,List.filter_append,List.length_append,filter1]
theorem earlyUp_0 (m:List Int) (C:Nat→Nat→Bool):earlyUp m C 0=0:=by simp [earlyUp,upP]
theorem earlyUp_succ (m:List Int) (C:Nat→Nat→Bool) (j:Nat):earlyUp m C (j+1)=earlyUp m C j+cI m C j j:=by
 unfold earlyUp cI;rw [upP_succ,List.filter_append,List.length_append,List.filter_map,List.length_map];rfl
end Go.Cw

namespace Go.Cw
open Go Go.Abs
def posF (order:List Int) (N:Nat):Option (List Int):=if order.length=N then atF N order 0 (List.replicate N (-1)) else none
theorem atF_len {n:Nat}:∀ (o:List Int) (i:Nat) (m m':List Int),atF n o i m=some m'→m'.length=m.length
 | [],i,m,m',h=>by rw [atF] at h;cases h;rfl
 | k::o,i,m,m',h=>by
  rw [atF] at h;split at h
  · cases h
  · rw [atF_len o _ _ _ h,List.length_set]
theorem posF_len {order m:List Int} {n:Nat} (h:posF order n=some m):m.length=n:=by
 unfold posF at h;split at h
 · rw [atF_len _ _ _ _ h,List.length_replicate]
 · cases h
theorem legal_pos (fs:List Foot) (order:List Int):qcs fs order=match posF order fs.length with
  | none=>false
  | some m=>decide (earlyUp m (qc4 fs) fs.length=0):=by
 unfold qcs posF;by_cases h:order.length=fs.length
 ·
  rw [if_pos h];have hs:=atF_spec order [] _ (Pl.nil fs.length);simp only [List.length_nil] at hs;rcases hA:atF fs.length order 0 (List.replicate fs.length (-1)) with _ | m
  ·
   have h1:permR order fs.length=false:=by
    rcases Bool.eq_false_or_eq_true (permR order fs.length) with g | g
    · exact (hs.2 hA ((perm_iff _ _).1 g).2).elim
    · exact g
   rw [h1];rfl
  ·
   have h1:permR order fs.length=true:=(perm_iff _ _).2 ⟨h,(hs.1 m hA).1⟩;rw [h1,Bool.true_and];unfold earlyP;rw [hA];simp [h]
 ·
  rw [if_neg h];have h1:permR order fs.length=false:=by
   rcases Bool.eq_false_or_eq_true (permR order fs.length) with g | g
   · exact (h ((perm_iff _ _).1 g).1).elim
   · exact g
  rw [h1];rfl
theorem cI_mono (m:List Int) (C:Nat→Nat→Bool) (j i:Nat):∀ d,cI m C j i≤cI m C j (i+d)
 | 0=>Nat.le_refl _
 | d+1=>by
  have:=cI_mono m C j i d;rw [← Nat.add_assoc,cI_succ];omega
theorem earlyUp_mono (m:List Int) (C:Nat→Nat→Bool) (i:Nat):∀ d,earlyUp m C i≤earlyUp m C (i+d)
 | 0=>Nat.le_refl _
 | d+1=>by
  have:=earlyUp_mono m C i d;rw [← Nat.add_assoc,earlyUp_succ];omega
theorem early_hit {m:List Int} {C:Nat→Nat→Bool} {i j n:Nat} (hij:i<j) (hj:j<n) (h:(decide (m.getD j (-1)<m.getD i (-1))&&C i j)=true):¬ earlyUp m C n=0:=by
 have h1:=cI_succ m C j i;rw [if_pos h] at h1;have h2:=cI_mono m C j (i+1) (j - (i+1));rw [show i+1+(j - (i+1))=j by omega] at h2;have h3:=earlyUp_mono m C (j+1) (n - (j+1));rw [show j+1+(n - (j+1))=n by omega,earlyUp_succ] at h3;omega
end Go.Cw

namespace Go.Cw
open Go Go.Abs
end Go.Cw

namespace Go.Cw
open Go Go.Abs
section
variable {fmt:Int→qac} {p:Proc} {args:List V} {st:List Pr}
end
section
variable (fmt:Int→qac)
structure Res where
 id:Int
 att:Int
 status:Int
 code:Int
 out:List V
def Res.c (r:Res):List AV:=[I r.id,I r.att,I r.status,I r.code,.slice (r.out.map V.c)]
def Res.z:Res:=⟨0,0,0,0,[]⟩
end
section
variable {fmt:Int→qac}
end
end Go.Cw

namespace Go.Cw
open Go Go.Abs
section
variable {fmt:Int→qac}
structure Tal (L:List Txn) (l:List Txn) (is:List Nat) (out:List Res):Prop where
 len:is.length=l.length
 ol:out.length=L.length
 nod:is.Nodup
 lt:∀ i∈is,i<L.length
 id:∀ j (h:j<l.length) (h':j<is.length) (h2:is[j]<L.length),l[j].id=L[is[j]].id
 done:∀ i (h:i<L.length) (h':i<out.length),i∈is∨(out[i].id=L[i].id∧(out[i].status=1∨out[i].status=2))
end
end Go.Cw

namespace Go.Cw
open Go Go.Abs
section
variable {C:Cfg}
section
variable (hV:vC C) (hC:rngC C)
include hV hC
end
end
end Go.Cw
