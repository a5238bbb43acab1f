/- Part 25 of a proof: CwUc, CwUd, CwZ, CwSa -/
import Derived.Test.YtdbpbpmikpdjcaaGreatDoorQ24
set_option linter.all false

namespace Go.Cw
open Go Go.Abs
section
variable {fmt:Int→qad}
def lvl (k:Nat) (l:List Txn):Prop:=match k with
 | 0=>l=[]
 | 1=>∀ t∈l,t.ft.all=true
 | 2=>∀ t∈l,2≤t.att
 | _=>True
theorem round_none {procs:List Proc}:∀ (l:List Txn) (s:List Pr),(∀ t∈l,t.ft.all=true)→∀ e∈(qbb fmt procs s l).2,e.status≠3:=fun l=>by
 refine snoc_ind (P:=fun l=>∀ s,(∀ t∈l,t.ft.all=true)→∀ e∈(qbb fmt procs s l).2,e.status≠3) (fun s _ e he=>by simp [qbb] at he) (fun l t ih s h e he=>?_) l
 rw [round_snoc] at he
 rcases List.mem_append.1 he with he | he
 · exact ih s (fun t ht=>h t (by simp [ht])) e he
 ·
  rw [List.mem_singleton.1 he]
  exact one_all (h t (by simp))
theorem tally_next {procs:List Proc} {s:List Pr}:∀ (l:List Txn) (es:List Eff) (is:List Nat) (x:List Res×List Txn×List Nat) (P:Txn→Prop),(∀ t∈x.2.1,P t)→(∀ t∈l,∀ e∈es,e.status=3→P (qdb fmt procs s t))→∀ t∈(qcm fmt procs s l es is x).2.1,P t
 | [],es,is,x,P,h,_=>by rw [qcm];exact h;simp
 | t::l,[],is,x,P,h,_=>by rw [qcm];exact h;simp
 | t::l,e::es,[],x,P,h,_=>by rw [qcm];exact h;simp
 | t::l,e::es,i::is,(out,nx,lf),P,h,hn=>by
  rw [qcm]
  refine tally_next l es is _ P (fun u hu=>?_) fun u hu e' he' h3=>hn u (by simp [hu]) e' (by simp [he']) h3
  split at hu
  ·
   rename_i h3
   rcases List.mem_append.1 hu with hu | hu
   · exact h u hu
   · rw [List.mem_singleton.1 hu];exact hn t (by simp) e (by simp) h3
  · exact h u hu
theorem retry_att {procs:List Proc} {s:List Pr} (t:Txn):2≤(qdb fmt procs s t).att:=by
 unfold qdb
 split
 · exact (by decide:(2:Int)≤3)
 · split<;>exact (by decide:(2:Int)≤2)
theorem retry_all {procs:List Proc} {s:List Pr} {t:Txn} (h:2≤t.att):(qdb fmt procs s t).ft.all=true:=by
 unfold qdb
 rw [if_pos h]
theorem lvl_next {procs:List Proc} {s:List Pr} {l:List Txn} {is:List Nat} {out:List Res} {k:Nat} (h:lvl (k+1) l):lvl k (qcm fmt procs (qbb fmt procs s l).1 l (qbb fmt procs s l).2 is (out,[],[])).2.1:=by
 match k with
 | 0 =>
  have h:∀ t∈l,t.ft.all=true:=h
  have h3:=round_none (fmt:=fmt) (procs:=procs) l s h
  refine List.eq_nil_iff_forall_not_mem.2 fun t ht=>?_
  exact tally_next l _ is (out,[],[]) (fun _=>False) (by simp) (fun t _ e he h=>h3 e he h) t ht
 | 1 =>
  have h:∀ t∈l,2≤t.att:=h
  exact tally_next l _ is (out,[],[]) (fun t=>t.ft.all=true) (by simp) (fun t ht e he _=>retry_all (h t ht))
 | 2=>exact tally_next l _ is (out,[],[]) (fun t=>2≤t.att) (by simp) (fun t ht e he _=>retry_att t)
 | k+3=>trivial
def batchS (fmt:Int→qad) (procs:List Proc) (s:List Pr) (l:List Txn):List Pr×List Res:=batchF fmt procs 3 s l (List.range l.length) (List.replicate l.length Res.z)
structure Tal (L:List Txn) (l:List Txn) (is:List Nat) (out:List Res):Prop where
 len:is.length=l.length
 ol:out.length=L.length
 nod:is.Nodup
 lt:∀ i∈is,i<L.length
 id:∀ j (h:j<l.length) (h':j<is.length) (h2:is[j]<L.length),l[j].id=L[is[j]].id
 done:∀ i (h:i<L.length) (h':i<out.length),i∈is∨(out[i].id=L[i].id∧(out[i].status=1∨out[i].status=2))
theorem retry_id {procs:List Proc} {s:List Pr} (t:Txn):(qdb fmt procs s t).id=t.id:=by
 unfold qdb
 split
 · rfl
 · split<;>rfl
theorem get_congr {α:Type} {L:List α} {a b:Nat} (e:a=b) (ha:a<L.length) (hb:b<L.length):L[a]=L[b]:=by subst e;rfl
theorem tally_ok {procs:List Proc} {s:List Pr} {L:List Txn}:∀ (l:List Txn) (es:List Eff) (is:List Nat) (out:List Res) (nx:List Txn) (lf:List Nat),es.length=l.length→(∀ e∈es,e.status=1∨e.status=2∨e.status=3)→Tal L (nx++l) (lf++is) out→lf.length=nx.length →
  Tal L (qcm fmt procs s l es is (out,nx,lf)).2.1 (qcm fmt procs s l es is (out,nx,lf)).2.2 (qcm fmt procs s l es is (out,nx,lf)).1
 | [],es,is,out,nx,lf,_,_,h,hn=>by
  have hi:is=[]:=by
   have:=h.len
   simp at this
   exact List.eq_nil_of_length_eq_zero (by omega)
  subst hi
  rw [qcm]
  · simpa using h
  · simp
 | t::l,[],is,out,nx,lf,he,_,_,_=>by cases he
 | t::l,e::es,[],out,nx,lf,_,_,h,hn=>by
  have:=h.len
  simp at this
  omega
 | t::l,e::es,i::is,out,nx,lf,he,hst,h,hn=>by
  rw [qcm]
  have hil:i<L.length:=h.lt i (by simp)
  have hid:t.id=L[i].id:=by
   have:=h.id nx.length (by simp) (by simp [hn]) (by simp [← hn];exact hil)
   simpa [← hn] using this
  have hout:∀ r:Res,∀ j (h1:j<L.length) (h2:j<(out.set i r).length),j≠i→(j∈lf++i::is∨((out.set i r)[j].id=L[j].id∧((out.set i r)[j].status=1∨(out.set i r)[j].status=2))):=fun r j h1 h2 hj=>by
   have h3:j<out.length:=by simpa using h2
   rw [List.getElem_set_ne (fun e=>hj e.symm)]
   exact h.done j h1 h3
  by_cases h3:e.status=3
  ·
   rw [if_pos h3]
   refine tally_ok l es is _ _ _ (by simpa using he) (fun e' he'=>hst e' (by simp [he'])) ⟨?_,?_,?_,?_,?_,?_⟩ (by simp [hn])
   · have:=h.len;simp at this ⊢;omega
   · simpa using h.ol
   · simpa using h.nod
   · simpa using h.lt
   ·
    intro j h1 h2 h4
    simp only [List.append_assoc,List.singleton_append] at h1 h2 h4 ⊢
    have h5:=h.id j (by simpa using h1) (by simpa using h2) h4
    rw [← h5]
    by_cases hj:j=nx.length
    ·
     subst hj
     simp [retry_id]
    ·
     by_cases hj2:j<nx.length
     · rw [List.getElem_append_left hj2,List.getElem_append_left hj2]
     ·
      rw [List.getElem_append_right (by omega),List.getElem_append_right (by omega)]
      obtain ⟨m,hm⟩:∃ m,j - nx.length=m+1:=⟨j - nx.length - 1,by omega⟩
      simp only [hm,List.getElem_cons_succ]
   ·
    intro j h1 h2
    by_cases hj:j=i
    · subst hj;exact .inl (by simp)
    ·
     have:=hout (resOf t e) j h1 h2 hj
     simpa using this
  ·
   rw [if_neg h3]
   have hstat:e.status=1∨e.status=2:=by have:=hst e (by simp);omega
   refine tally_ok l es is _ _ _ (by simpa using he) (fun e' he'=>hst e' (by simp [he'])) ⟨?_,?_,?_,?_,?_,?_⟩ hn
   · have:=h.len;simp at this ⊢;omega
   · simpa using h.ol
   ·
    have:=h.nod
    exact (List.nodup_append.1 this).1 |> fun a=>List.nodup_append.2 ⟨a,(List.nodup_cons.1 (List.nodup_append.1 this).2.1).2,fun x hx y hy=>(List.nodup_append.1 this).2.2 x hx y (by simp [hy])⟩
   ·
    intro j hj
    refine h.lt j ?_
    simp only [List.mem_append,List.mem_cons] at hj ⊢
    rcases hj with hj | hj<;>simp [hj]
   ·
    intro j h1 h2 h4
    by_cases hj2:j<nx.length
    ·
     have h5:=h.id j (by simp at h1 ⊢;omega) (by simp at h2 ⊢;omega) (by
      rw [List.getElem_append_left (by omega)] at h4 ⊢;exact h4)
     rw [List.getElem_append_left hj2] at h5 ⊢
     rw [h5]
     exact congrArg Txn.id (get_congr (by rw [List.getElem_append_left (by omega),List.getElem_append_left (by omega)]) _ _)
    ·
     simp only [List.length_append] at h1 h2
     have e1:(lf++i::is)[j+1]'(by simp;omega)=(lf++is)[j]'(by simp;omega):=by
      rw [List.getElem_append_right (by omega),List.getElem_append_right (by omega)]
      have:j+1 - lf.length=(j - lf.length)+1:=by omega
      simp only [this,List.getElem_cons_succ]
     have e2:(nx++t::l)[j+1]'(by simp;omega)=(nx++l)[j]'(by simp;omega):=by
      rw [List.getElem_append_right (by omega),List.getElem_append_right (by omega)]
      have:j+1 - nx.length=(j - nx.length)+1:=by omega
      simp only [this,List.getElem_cons_succ]
     have h5:=h.id (j+1) (by simp;omega) (by simp;omega) (by rw [e1];exact h4)
     rw [e2] at h5
     rw [h5]
     exact congrArg Txn.id (get_congr e1 _ _)
   ·
    intro j h1 h2
    by_cases hj:j=i
    ·
     subst hj
     refine .inr ?_
     rw [List.getElem_set_self]
     exact ⟨hid,hstat⟩
    ·
     rcases hout (resOf t e) j h1 h2 hj with h5 | h5
     ·
      simp only [List.mem_append,List.mem_cons] at h5
      rcases h5 with h5 | h5 | h5
      · exact .inl (by simp [h5])
      · exact (hj h5).elim
      · exact .inl (by simp [h5])
     · exact .inr h5
theorem round_status {procs:List Proc}:∀ (l:List Txn) (s:List Pr),∀ e∈(qbb fmt procs s l).2,e.status=1∨e.status=2∨e.status=3:=fun l=>by
 refine snoc_ind (P:=fun l=>∀ s,∀ e∈(qbb fmt procs s l).2,e.status=1∨e.status=2∨e.status=3) (fun s e he=>by simp [qbb] at he) (fun l t ih s e he=>?_) l
 rw [round_snoc] at he
 rcases List.mem_append.1 he with he | he
 · exact ih s e he
 ·
  rw [List.mem_singleton.1 he]
  exact one_status
theorem batch_ok {procs:List Proc} {L:List Txn}:∀ (k:Nat) (s:List Pr) (l:List Txn) (is:List Nat) (out:List Res),lvl k l→Tal L l is out→Tal L [] [] (batchF fmt procs k s l is out).2
 | 0,s,l,is,out,h,hT=>by
  have h:l=[]:=h
  subst h
  have hi:is=[]:=List.eq_nil_of_length_eq_zero (by have:=hT.len;simpa using this)
  subst hi
  rw [batchF]
  exact hT
 | k+1,s,l,is,out,h,hT=>by
  rw [batchF]
  by_cases hl:l=[]
  ·
   rw [if_pos hl]
   subst hl
   have hi:is=[]:=List.eq_nil_of_length_eq_zero (by have:=hT.len;simpa using this)
   subst hi
   exact hT
  ·
   rw [if_neg hl]
   exact batch_ok k _ _ _ _ (lvl_next h) (tally_ok l _ is out [] [] (round_cnt procs s l) (round_status l s) (by simpa using hT) rfl)
theorem batch_ends {procs:List Proc} {s:List Pr} (L:List Txn):(batchS fmt procs s L).2.length=L.length∧∀ i (h:i<L.length) (h':i<(batchS fmt procs s L).2.length),(batchS fmt procs s L).2[i].id=L[i].id∧((batchS fmt procs s L).2[i].status=1∨(batchS fmt procs s L).2[i].status=2):=by
 have h0:Tal L L (List.range L.length) (List.replicate L.length Res.z):=⟨by simp,by simp,List.nodup_range,fun i hi=>List.mem_range.1 hi,fun j h h' h2=>by simp,fun i h h'=>.inl (List.mem_range.2 h)⟩
 have:=batch_ok (fmt:=fmt) (procs:=procs) 3 s L _ _ trivial h0
 exact ⟨this.ol,fun i h h'=>(this.done i h h').elim (fun g=>by cases g) id⟩
end
end Go.Cw

namespace Go.Cw
open Go Go.Abs
section
variable {fmt:Int→qad}
theorem tally_inv {procs:List Proc} {s:List Pr}:∀ (l:List Txn) (es:List Eff) (is:List Nat) (out:List Res) (nx:List Txn) (lf:List Nat),es.length=l.length→is.length=l.length→lf.length=nx.length→(∀ i∈is,i<out.length)→(∀ i∈lf,i<out.length) →
  (qcm fmt procs s l es is (out,nx,lf)).2.2.length=(qcm fmt procs s l es is (out,nx,lf)).2.1.length∧(qcm fmt procs s l es is (out,nx,lf)).1.length=out.length∧(∀ i∈(qcm fmt procs s l es is (out,nx,lf)).2.2,i<out.length)∧(qcm fmt procs s l es is (out,nx,lf)).2.1.length≤nx.length+l.length
 | [],es,is,out,nx,lf,_,_,hn,_,hlf=>by
  rw [qcm]
  · exact ⟨hn,rfl,hlf,by simp⟩
  · simp
 | t::l,[],is,out,nx,lf,he,_,_,_,_=>by cases he
 | t::l,e::es,[],out,nx,lf,_,hi,_,_,_=>by cases hi
 | t::l,e::es,i::is,out,nx,lf,he,hi,hn,his,hlf=>by
  rw [qcm]
  by_cases h3:e.status=3
  ·
   rw [if_pos h3]
   have:=tally_inv (procs:=procs) (s:=s) l es is (out.set i (resOf t e)) (nx++[qdb fmt procs s t]) (lf++[i]) (by simpa using he) (by simpa using hi) (by simp [hn]) (by simpa using fun j hj=>his j (by simp [hj])) (by
    intro j hj
    rw [List.length_set]
    rcases List.mem_append.1 hj with hj | hj
    · exact hlf j hj
    · rw [List.mem_singleton.1 hj];exact his i (by simp))
   simp only [List.length_set,List.length_append,List.length_cons,List.length_nil] at this ⊢
   refine ⟨this.1,this.2.1,this.2.2.1,by have:=this.2.2.2;omega⟩
  ·
   rw [if_neg h3]
   have:=tally_inv (procs:=procs) (s:=s) l es is (out.set i (resOf t e)) nx lf (by simpa using he) (by simpa using hi) hn (by simpa using fun j hj=>his j (by simp [hj])) (by simpa using hlf)
   simp only [List.length_set,List.length_cons] at this ⊢
   refine ⟨this.1,this.2.1,this.2.2.1,by have:=this.2.2.2;omega⟩
theorem batch_done {procs:List Proc}:∀ (k:Nat) (s:List Pr) (is:List Nat) (out:List Res),batchF fmt procs k s [] is out=(s,out)
 | 0,s,is,out=>rfl
 | k+1,s,is,out=>by rw [batchF,if_pos rfl]
structure BSt where
 k:Nat
 s:List Pr
 l:List Txn
 is:List Nat
 out:List Res
structure BOk (fmt:Int→qad) (procs:List Proc) (s0:List Pr) (L:List Txn) (x:BSt):Prop where
 lv:lvl x.k x.l
 len:x.is.length=x.l.length
 ol:x.out.length=L.length
 lt:∀ i∈x.is,i<L.length
 inn:BatchIn fmt procs x.l
 rng:rngL x.s
 sl:x.s.length+64 * (L.length * x.k)≤60000000000
 ll:x.l.length≤L.length
 eq:batchF fmt procs x.k x.s x.l x.is x.out=batchS fmt procs s0 L
def b0 (s:List Pr) (L:List Txn):BSt:=⟨3,s,L,List.range L.length,List.replicate L.length Res.z⟩
theorem b0_ok {procs:List Proc} {s:List Pr} {L:List Txn} (hB:BatchIn fmt procs L) (hs:rngL s) (hL:s.length+192 * L.length≤60000000000):BOk fmt procs s L (b0 s L) :=
 ⟨trivial,by simp [b0],by simp [b0],fun i hi=>List.mem_range.1 hi,hB,hs,by simp only [b0];omega,Nat.le_refl _,rfl⟩
def bNext (fmt:Int→qad) (procs:List Proc) (x:BSt):BSt :=
 let r:=qbb fmt procs x.s x.l
 let y:=qcm fmt procs r.1 x.l r.2 x.is (x.out,[],[])
 ⟨x.k - 1,r.1,y.2.1,y.2.2,y.1⟩
theorem retry_args {procs:List Proc} {s:List Pr} (t:Txn):(qdb fmt procs s t).args=t.args:=by
 unfold qdb
 split
 · rfl
 · split<;>rfl
theorem bNext_ok {procs:List Proc} {s0:List Pr} {L:List Txn} {x:BSt} (h:BOk fmt procs s0 L x) (hl:x.l≠[]):BOk fmt procs s0 L (bNext fmt procs x)∧(bNext fmt procs x).k<x.k:=by
 obtain ⟨k,s,l,is,out⟩:=x
 obtain ⟨lv,len,ol,lt,inn,rng,sl,ll,eq⟩:=h
 simp only at lv len ol lt inn rng sl ll eq hl
 cases k with
 | zero=>exact (hl lv).elim
 | succ k =>
  obtain ⟨hr,hrl,_⟩:=qdf (fmt:=fmt) (procs:=procs) (l:=l) rng inn l.length (Nat.le_refl _)
  rw [List.take_length] at hr hrl
  have hc:=round_cnt (fmt:=fmt) procs s l
  obtain ⟨h1,h2,h3,h4⟩:=tally_inv (fmt:=fmt) (procs:=procs) (s:=(qbb fmt procs s l).1) l (qbb fmt procs s l).2 is out [] [] hc len rfl (by rw [ol];exact lt) (by simp)
  have hlv:=lvl_next (fmt:=fmt) (procs:=procs) (s:=s) (is:=is) (out:=out) lv
  have hmul:L.length * (k+1)=L.length * k+L.length:=Nat.mul_succ _ _
  refine ⟨⟨hlv,h1,h2.trans ol,by rw [ol] at h3;exact h3,⟨inn.fmt,inn.body,?_⟩,hr,?_,?_,?_⟩,by simp [bNext]⟩
  · exact tally_next l _ is (out,[],[]) (fun t=>∀ v∈t.args,qdi v) (by simp) (fun t ht e _ _=>by rw [retry_args];exact inn.args t ht)
  ·
   simp only [bNext,Nat.add_sub_cancel]
   omega
  ·
   simp only [bNext]
   simp only [List.length_nil] at h4
   omega
  ·
   rw [← eq,batchF,if_neg hl]
   rfl
end
end Go.Cw

namespace Go.Cw
open Go Go.Abs
section
variable {C:Cfg}
theorem EvSim.okI {x:EV} {v w:V} {s:MS} {m:RM} (h:Sim s m) (hx:x=.ok v) (hw:w=v):EvSim (x,s) (w,m):=by subst hx hw;exact ⟨rfl,h⟩
theorem sim_got {s':MS} {m':RM} (h:Sim s' m') (op:Int) (v:V) (hop:op=22∨op=23∨op=24) :
  EvSim (gotS op v,s') (if op=24 then (vB (!decide (v.k=0)),m') else if v.k=0 then (⟨if op=23 then 2 else 1,0,em⟩,m') else if v.k≠(if op=23 then 2 else 1) then (V.nil,m'.ab 1003) else (v,m')):=by
 rcases hop with rfl | rfl | rfl
 ·
  by_cases h0:v.k=0
  ·
   simp only [gotS,h0]
   exact .okI h rfl rfl
  ·
   by_cases h1:v.k=1
   ·
    simp only [gotS,h1]
    exact .okI h rfl rfl
   ·
    simp [gotS,h0,h1]
    exact .ab h
 ·
  by_cases h0:v.k=0
  ·
   simp only [gotS,h0]
   exact .okI h rfl rfl
  ·
   by_cases h1:v.k=2
   ·
    simp only [gotS,h1]
    exact .okI h rfl rfl
   ·
    simp [gotS,h0,h1]
    exact .ab h
 ·
  simp only [gotS]
  exact .okI h rfl rfl
theorem sim_one {s:MS} {m:RM} (h:Sim s m) {op:Int} {a:V} (ha:okX a) (hr:qdi a) (hf:∀ n,i64 n→qa9 (C.fmt n)=true) (hop:op=9∨op=18∨op=20∨op=21∨op=22∨op=23∨op=24):EvSim (unS C op a s) (oneR C m op a):=by
 have hfe:a.k=2→(op=22∨op=23∨op=24)→EvSim (unS C op a s) (oneR C m op a):=by
  intro hk ho
  have hf:=sim_fetch (C:=C) h a.s
  have hw:wantR op=2:=by rcases ho with rfl | rfl | rfl<;>rfl
  have e1:unS C op a s=match qct C a.s s with
   | (.error z,m')=>(.error z,m')
   | (.ok v,m')=>(gotS op v,m'):=by
   unfold unS
   rw [if_neg (by omega),if_neg (by omega),if_neg (by omega),if_neg (by omega),if_neg (by simp [hk])]
   rfl
  have e2:oneR C m op a=if (qbk C m a.s).2.st≠0 then (V.nil,(qbk C m a.s).2) else if op=24 then (vB (!decide ((qbk C m a.s).1.k=0)),(qbk C m a.s).2) else if (qbk C m a.s).1.k=0 then (⟨if op=23 then 2 else 1,0,em⟩,(qbk C m a.s).2) else if (qbk C m a.s).1.k≠(if op=23 then 2 else 1) then (V.nil,(qbk C m a.s).2.ab 1003) else ((qbk C m a.s).1,(qbk C m a.s).2):=by
   unfold oneR
   rw [if_neg (by rw [hw];simp [hk]),if_neg (by omega),if_neg (by omega),if_neg (by omega),if_neg (by omega)]
  rw [e1,e2]
  rcases hx:qct C a.s s with ⟨z | v,s'⟩<;>rw [hx] at hf
  ·
   have hf:(qbk C m a.s).1=V.nil∧Dead z s' (qbk C m a.s).2:=hf
   rw [if_pos (by rw [hf.2.st];exact hf.2.ne)]
   exact ⟨rfl,hf.2⟩
  ·
   have hf:(qbk C m a.s).1=v∧Sim s' (qbk C m a.s).2:=hf
   rw [if_neg (by rw [hf.2.st];simp),hf.1]
   exact sim_got hf.2 op v ho
 rcases hop with rfl | rfl | rfl | rfl | ho
 ·
  by_cases hk:a.k=1
  · simpa [unS,oneR,wantR,hk] using sim_calc h (qdn a.n)
  · simpa [unS,oneR,wantR,hk] using (EvSim.ab (c:=1009) h)
 ·
  by_cases hk:a.k=3
  · simpa [unS,oneR,wantR,hk] using (EvSim.ok (v:=vB (decide (a.n=0))) h)
  · simpa [unS,oneR,wantR,hk] using (EvSim.ab (c:=1009) h)
 ·
  by_cases hk:a.k=1
  ·
   have hp:=hf _ hr.1
   unfold qa9 at hp
   simp only [Bool.and_eq_true,decide_eq_true_eq] at hp
   have ht:textS (C.fmt a.n)=.ok (vS (C.fmt a.n)):=by unfold textS;rw [if_neg (by omega)]
   simpa [unS,oneR,wantR,hk,ht] using (EvSim.ok (v:=vS (C.fmt a.n)) h)
  · simpa [unS,oneR,wantR,hk] using (EvSim.ab (c:=1009) h)
 ·
  by_cases hk:a.k=2
  · simpa [unS,oneR,wantR,hk] using (EvSim.ok (v:=vI a.s.size) h)
  · simpa [unS,oneR,wantR,hk] using (EvSim.ab (c:=1009) h)
 ·
  by_cases hk:a.k=2
  · exact hfe hk ho
  ·
   have e1:unS C op a s=(.error (ab 1009),s):=by
    unfold unS
    rw [if_neg (by omega),if_neg (by omega),if_neg (by omega),if_neg (by omega),if_pos (by simp [hk])]
   have hw:wantR op=2:=by rcases ho with rfl | rfl | rfl<;>rfl
   have e2:oneR C m op a=(V.nil,m.ab 1009):=by
    unfold oneR
    rw [if_pos (by rw [hw];simp [hk])]
   rw [e1,e2]
   exact .ab h
theorem sim_op {s:MS} {m:RM} (h:Sim s m) {op:Int} {l:List V} (hl:∀ v∈l,okX v) (hr:∀ v∈l,qdi v) (hf:∀ n,i64 n→qa9 (C.fmt n)=true) (har:(l.length:Int)=qb2 op):EvSim (opS C op l s) (opR C m op l):=by
 match l with
 | []=>exact .ab h
 | [a] =>
  refine sim_one h (hl a (by simp)) (hr a (by simp)) hf ?_
  unfold qb2 at har
  simp at har
  split at har
  · omega
  split at har
  · omega
  split at har
  · omega
  · omega
 | [a,b] =>
  refine sim_two h (hl a (by simp)) (hl b (by simp)) ?_
  unfold qb2 at har
  simp at har
  split at har
  · omega
  split at har
  · omega
  split at har
  · omega
  · omega
 | a::b::c::r=>exact .ab h
section
variable (hV:vC C) (hC:rngC C)
include hV hC
mutual
theorem sim_ev:∀ (e:Ex) (d:Nat) (s:MS) (m:RM),chkE e d=0→rngX e→vM s→rngM s→ascS s.reads→Sim s m→EvSim (evE C e s) (evR C e m)
 | .mk op n x args,d,s,m,hc,hR,hM,hr,ha,h=>by
  have har:=qd8 hc
  have hR':=(qeh _).1 hR
  simp only [Ex.args,Ex.op,Ex.n,Ex.s] at har hR'
  rw [chkE] at hc
  by_cases hn:qcb op n x args.length d=0
  ·
   rw [if_pos hn] at hc
   rw [evE,evR]
   by_cases h1:op=1
   · rw [if_pos h1,if_pos h1];exact .ok h
   rw [if_neg h1,if_neg h1]
   by_cases h2:op=2
   · rw [if_pos h2,if_pos h2];exact .ok h
   rw [if_neg h2,if_neg h2]
   by_cases h3:op=3
   ·
    rw [if_pos h3,if_pos h3]
    have hv:=h.vars x
    by_cases hp:hasP m.vars x=true
    ·
     rw [if_pos hp] at hv
     rw [hv,if_pos hp]
     exact .ok h
    ·
     rw [if_neg hp] at hv
     rw [hv,if_neg hp]
     exact .ab h
   rw [if_neg h3,if_neg h3]
   have hS:=sim_evL args (d+1) s m hc hR'.2 hM hr ha h
   have hE:=evL_ok hC args s hR'.2 hr ha
   rcases hL:evL C args s with ⟨z | l,s'⟩
   ·
    rw [hL] at hS
    have hS:Dead z s' (evRL C args m).2:=hS
    simp only
    rw [if_pos (by rw [hS.st];exact hS.ne)]
    exact ⟨rfl,hS⟩
   ·
    rw [hL] at hS hE
    have hS:(evRL C args m).1=l∧Sim s' (evRL C args m).2:=hS
    simp only
    rw [if_neg (by rw [hS.2.st];simp),hS.1]
    have hl:=okX_evL hV hC args (d+1) s s' l hc hR'.2 hM hr ha hL
    exact sim_op hS.2 hl (hE.2 l rfl) hV.fmt (by rw [evL_len hL];exact har)
  ·
   rw [if_neg hn] at hc
   exact (hn hc).elim
theorem sim_evL:∀ (l:List Ex) (d:Nat) (s:MS) (m:RM),chkL l d=0→(∀ x∈l,rngX x)→vM s→rngM s→ascS s.reads→Sim s m →
  (match (evL C l s).1 with
   | .ok r=>(evRL C l m).1=r∧Sim (evL C l s).2 (evRL C l m).2
   | .error z=>Dead z (evL C l s).2 (evRL C l m).2)
 | [],d,s,m,_,_,_,_,_,h=>by rw [evL,evRL];exact ⟨rfl,h⟩
 | e::l,d,s,m,hc,hR,hM,hr,ha,h=>by
  rw [chkL] at hc
  split at hc
  ·
   rename_i h0
   have hE':=evE_ok hC e s (hR e (by simp)) hr ha
   have hS:=sim_ev e d s m h0 (hR e (by simp)) hM hr ha h
   rw [evL,evRL]
   rcases hE:evE C e s with ⟨z | v,s'⟩
   ·
    rw [hE] at hS
    have hS:(evR C e m).1=V.nil∧Dead z s' (evR C e m).2:=hS
    simp only
    rw [if_pos (by rw [hS.2.st];exact hS.2.ne)]
    exact hS.2
   ·
    rw [hE] at hS hE'
    have hS:(evR C e m).1=v∧Sim s' (evR C e m).2:=hS
    simp only
    rw [if_neg (by rw [hS.2.st];simp)]
    have hT:=sim_evL l d s' (evR C e m).2 hc (fun x hx=>hR x (by simp [hx])) (vM_ev hE'.1 hM) (hE'.1.rng hr) hE'.1.asc hS.2
    rcases hL:evL C l s' with ⟨z | r,s''⟩
    ·
     rw [hL] at hT
     exact hT
    ·
     rw [hL] at hT
     have hT:(evRL C l (evR C e m).2).1=r∧Sim s'' (evRL C l (evR C e m).2).2:=hT
     exact ⟨by rw [hS.1,hT.1],hT.2⟩
  · contradiction
end
end
end
end Go.Cw

namespace Go.Cw
open Go Go.Abs
abbrev Vis:=List (qad×Int)
def subV (a b:Vis):Prop:=∀ k ty,qby a k=some ty→qby b k=some ty
theorem subV.refl (a:Vis):subV a a:=fun _ _ h=>h
theorem subV.trans {a b c:Vis} (h:subV a b) (g:subV b c):subV a c:=fun k ty e=>g k ty (h k ty e)
def qcc {α:Type} (l:List (qad×α)):List qad:=l.map (·.1)
theorem qc5 {α:Type}:∀ {l:List (qad×α)} {k:qad},qby l k=none↔k∉qcc l
 | [],k=>by simp [qby,qcc]
 | p::l,k=>by
  have ih:=qc5 (l:=l) (k:=k)
  simp only [qby,qcc,List.map_cons,List.mem_cons,not_or] at ih ⊢
  by_cases h:p.1=k
  · simp [h]
  ·
   rw [if_neg h,ih]
   exact ⟨fun g=>⟨fun e=>h e.symm,g⟩,fun g=>g.2⟩
theorem qcx {α:Type}:∀ (l:List (qad×α)) (k:qad) (v:α) (x:qad),x∈qcc (qcl l k v)↔x=k∨x∈qcc l
 | [],k,v,x=>by simp [qcl,qcc]
 | p::l,k,v,x=>by
  have ih:=qcx l k v x
  rw [qcl]
  split
  ·
   rename_i h
   subst h
   simp [qcc]
  ·
   simp only [qcc,List.map_cons,List.mem_cons] at ih ⊢
   rw [ih]
   constructor
   · rintro (h | h | h)<;>simp [h]
   · rintro (h | h | h)<;>simp [h]
theorem nodV_set {α:Type}:∀ (l:List (qad×α)) (k:qad) (v:α),(qcc l).Nodup→(qcc (qcl l k v)).Nodup
 | [],k,v,_=>by simp [qcl,qcc]
 | p::l,k,v,h=>by
  have h':p.1∉qcc l∧(qcc l).Nodup:=List.nodup_cons.1 h
  rw [qcl]
  split
  ·
   rename_i e
   subst e
   exact h
  ·
   rename_i e
   refine List.nodup_cons.2 ⟨fun hm=>?_,nodV_set l k v h'.2⟩
   rcases (qcx l k v _).1 hm with e' | hm
   · exact e e'
   · exact h'.1 hm
theorem kDel_sub {α:Type}:∀ (l:List (qad×α)) (k:qad),(kDel l k).Sublist l
 | [],_=>by simp [kDel]
 | p::l,k=>by
  rw [kDel]
  split
  · exact List.sublist_cons_self _ _
  · exact (kDel_sub l k).cons₂ _
theorem kGet_of_mem {α:Type}:∀ {l:List (qad×α)} {k:qad} {v:α},(qcc l).Nodup→(k,v)∈l→qby l k=some v
 | p::l,k,v,hd,h=>by
  have hd':p.1∉qcc l∧(qcc l).Nodup:=List.nodup_cons.1 hd
  rw [qby]
  rcases List.mem_cons.1 h with rfl | h
  · simp
  ·
   rw [if_neg]
   · exact kGet_of_mem hd'.2 h
   ·
    intro e
    exact hd'.1 (List.mem_map.2 ⟨(k,v),h,e.symm⟩)
structure TOk (ts:TS):Prop where
 nod:(qcc ts.visible).Nodup
 sub:subV ts.visible ts.all
theorem TOk.del {ts:TS} (h:TOk ts) (k:qad):TOk ⟨kDel ts.visible k,ts.loops,ts.all⟩:=⟨h.nod.sublist ((kDel_sub _ _).map _),fun x ty e=>h.sub x ty (by
 have:=(kDel_sub ts.visible k).subset (kGet_mem e)
 exact kGet_of_mem h.nod this)⟩
theorem TOk.dels (b:List (qad×Bool)) (a:Vis):∀ (l:List St) {vis:Vis},TOk ⟨vis,b,a⟩→TOk ⟨delLets l vis,b,a⟩
 | [],vis,h=>h
 | t::l,vis,h=>by
  rw [delLets]
  refine TOk.dels b a l ?_
  split
  · exact h.del t.name
  · exact h
theorem TOk.set {ts:TS} (h:TOk ts) (k:qad) (ty:Int) (lp:List (qad×Bool)):TOk ⟨qcl ts.visible k ty,lp,qcl ts.all k ty⟩:=⟨nodV_set _ _ _ h.nod,fun x u e=>by
 simp only at e ⊢
 rw [qch] at e ⊢
 split at e
 · rename_i hk;rw [if_pos hk];exact e
 · rename_i hk;rw [if_neg hk];exact h.sub x u e⟩
mutual
def nmS:St→List qad
 | .mk op name _ _ _ body els=>(if op=1∨op=6 then [name] else [])++(nmL body++nmL els)
def nmL:List St→List qad
 | []=>[]
 | t::l=>nmS t++nmL l
end
theorem nmS_eq (t:St):nmS t=(if t.op=1∨t.op=6 then [t.name] else [])++(nmL t.body++nmL t.els):=by cases t;rw [nmS];rfl
structure TGo (ns:List qad) (ts ts':TS):Prop where
 ok:TOk ts'
 mono:subV ts.all ts'.all
 keys:∀ k,k∈qcc ts'.all→k∈qcc ts.all∨k∈ns
theorem TGo.refl {ts:TS} (h:TOk ts) (ns:List qad):TGo ns ts ts:=⟨h,.refl _,fun _ h=>.inl h⟩
theorem TGo.mono' {ns ns':List qad} {ts ts':TS} (h:TGo ns ts ts') (hn:∀ k∈ns,k∈ns'):TGo ns' ts ts':=⟨h.ok,h.mono,fun k hk=>(h.keys k hk).imp id (hn k)⟩
theorem TGo.trans {a b:List qad} {s t u:TS} (h:TGo a s t) (g:TGo b t u):TGo (a++b) s u:=⟨g.ok,h.mono.trans g.mono,fun k hk=>by
 rcases g.keys k hk with hk | hk
 ·
  rcases h.keys k hk with hk | hk
  · exact .inl hk
  · exact .inr (by simp [hk])
 · exact .inr (by simp [hk])⟩
def fresh (ns:List qad) (ts:TS):Prop:=ns.Nodup∧∀ k∈ns,k∉qcc ts.all
theorem TGo.set {ts:TS} (h:TOk ts) {k:qad} (hk:k∉qcc ts.all) (ty:Int) (lp:List (qad×Bool)):TGo [k] ts ⟨qcl ts.visible k ty,lp,qcl ts.all k ty⟩:=⟨h.set k ty lp,fun x u e=>by
 simp only
 rw [qch]
 split
 ·
  rename_i hx
  subst hx
  rw [qc5.2 hk] at e;cases e
 · exact e,fun x hx=>by
 rcases (qcx _ _ _ _).1 hx with h | h
 · exact .inr (by simp [h])
 · exact .inl h⟩
theorem fresh.left {a b:List qad} {ts:TS} (h:fresh (a++b) ts):fresh a ts:=⟨(List.nodup_append.1 h.1).1,fun k hk=>h.2 k (by simp [hk])⟩
theorem fresh.right {a b:List qad} {ts ts':TS} (h:fresh (a++b) ts) (g:TGo a ts ts'):fresh b ts':=⟨(List.nodup_append.1 h.1).2.1,fun k hk hm=>by
 rcases g.keys k hm with hm | hm
 · exact h.2 k (by simp [hk]) hm
 · exact (List.nodup_append.1 h.1).2.2 k hm k hk rfl⟩
theorem TGo.blk {ns:List qad} {l:List St} {f:TS→Int×TS} {ts:TS} (hf:(f ts).1=0→TGo ns ts (f ts).2) (h0:(qb9 l f ts).1=0):TGo ns ts (qb9 l f ts).2:=by
 unfold qb9 at h0 ⊢
 split at h0
 · rename_i h;exact (h h0).elim
 ·
  rename_i h
  rw [if_neg h]
  have g:=hf (by simpa using h)
  exact ⟨TOk.dels _ _ l (vis:=(f ts).2.visible) g.ok,g.mono,g.keys⟩
theorem go_step (t:St) (B E:TS→Int×TS) (ts:TS) (h:TOk ts) (hf:fresh (nmS t) ts)
  (hB:∀ ts,TOk ts→fresh (nmL t.body) ts→(B ts).1=0→TGo (nmL t.body) ts (B ts).2)
  (hE:∀ ts,TOk ts→fresh (nmL t.els) ts→(E ts).1=0→TGo (nmL t.els) ts (E ts).2)
  (h0:(stStep t B E ts).1=0):TGo (nmS t) ts (stStep t B E ts).2:=by
 rw [nmS_eq] at hf ⊢
 unfold stStep at h0 ⊢
 by_cases he:(qc4 ts.visible t).2.2≠0
 · rw [if_pos he] at h0;exact (he h0).elim
 rw [if_neg he] at h0 ⊢
 by_cases h1:t.op=1
 ·
  rw [if_pos h1] at h0 ⊢
  rw [if_pos (.inl h1)] at hf ⊢
  exact (TGo.set h (hf.2 t.name (by simp)) _ _).mono' (fun k hk=>by simp at hk;simp [hk])
 rw [if_neg h1] at h0 ⊢
 by_cases h2:t.op=2
 ·
  rw [if_pos h2]
  rcases qby ts.visible t.name with _ | ty
  · exact .refl h _
  · exact .refl h _
 rw [if_neg h2] at h0 ⊢
 by_cases h3:t.op=3
 · rw [if_pos h3];exact .refl h _
 rw [if_neg h3] at h0 ⊢
 by_cases h4:t.op=4
 · rw [if_pos h4];exact .refl h _
 rw [if_neg h4] at h0 ⊢
 by_cases h7:t.op=7
 · rw [if_pos h7];exact .refl h _
 rw [if_neg h7] at h0 ⊢
 by_cases h5:t.op=5
 ·
  rw [if_pos h5] at h0 ⊢
  by_cases h6:(qc4 ts.visible t).1≠3
  · rw [if_pos h6] at h0;simp at h0
  rw [if_neg h6] at h0 ⊢
  by_cases h8:(qb9 t.body B ts).1≠0
  · rw [if_pos h8] at h0;exact (h8 h0).elim
  rw [if_neg h8] at h0 ⊢
  rw [if_neg (by omega),List.nil_append] at hf ⊢
  have g1:=TGo.blk (l:=t.body) (fun g=>hB ts h hf.left g) (by simpa using h8)
  have g2:=TGo.blk (l:=t.els) (fun g=>hE _ g1.ok (hf.right g1) g) h0
  exact g1.trans g2
 rw [if_neg h5] at h0 ⊢
 by_cases h6:t.op=6
 ·
  rw [if_pos h6] at h0 ⊢
  by_cases h8:(qc4 ts.visible t).1≠1∨(qc4 ts.visible t).2.1≠1
  · rw [if_pos h8] at h0;simp at h0
  rw [if_neg h8] at h0 ⊢
  rw [if_pos (.inr h6)] at hf ⊢
  have g0:=TGo.set h (hf.2 t.name (by simp)) 1 (qcl ts.loops t.name true)
  have g1:=TGo.blk (l:=t.body) (fun g=>hB _ g0.ok (hf.right g0).left g) h0
  have g2:=g0.trans g1
  exact ⟨g1.ok.del t.name,g2.mono,fun k hk=>by
   rcases g2.keys k hk with hk | hk
   · exact .inl hk
   ·
    refine .inr ?_
    simp only [List.mem_append] at hk ⊢
    rcases hk with hk | hk
    · exact .inl hk
    · exact .inr (.inl hk)⟩
 ·
  rw [if_neg h6]
  exact .refl h _
mutual
theorem go_st:∀ (t:St) (ts:TS),TOk ts→fresh (nmS t) ts→(stT t ts).1=0→TGo (nmS t) ts (stT t ts).2
 | .mk op name mx a b body els,ts,h,hf,h0=>by
  rw [stT_eq] at h0 ⊢
  exact go_step (.mk op name mx a b body els) _ _ ts h hf (fun ts=>go_seq body ts) (fun ts=>go_seq els ts) h0
theorem go_seq:∀ (l:List St) (ts:TS),TOk ts→fresh (nmL l) ts→(qdc l ts).1=0→TGo (nmL l) ts (qdc l ts).2
 | [],ts,h,hf,h0=>by rw [qdc];exact .refl h _
 | t::l,ts,h,hf,h0=>by
  rw [qdc] at h0 ⊢
  rw [nmL] at hf ⊢
  split at h0
  · rename_i he;exact (he h0).elim
  rename_i he
  rw [if_neg he]
  have g1:=go_st t ts h hf.left (by simpa using he)
  exact g1.trans (go_seq l _ g1.ok (hf.right g1) h0)
end
def tyS (G:Vis) (s:MS):Prop:=∀ k v ty,qby s.vars k=some v→qby G k=some ty→v.k=ty
def qbh (op:Int):Int:=if 10≤op∧op≤15 then 3 else (qci op).2
theorem kind_exact {r:Int×Int} {v:V} (h:qcd r=.ok v):v.k=1:=by
 unfold qcd at h
 split at h
 · cases h;rfl
 · split at h<;>cases h
theorem kind_text {s:qad} {v:V} (h:textS s=.ok v):v.k=2:=by
 unfold textS at h
 split at h
 · cases h
 · cases h;rfl
section
variable {C:Cfg}
theorem kind_op {op:Int} {l:List V} {s t:MS} {v:V} (har:(l.length:Int)=qb2 op) (h:opS C op l s=(.ok v,t)):v.k=qbh op:=by
 have hy:∀ {x:EV} {u:MS},(x,u)=((.ok v,t):EV×MS)→x=.ok v:=fun h=>congrArg Prod.fst h
 unfold opS at h
 split at h
 ·
  rename_i a
  have hop:op=9∨op=18∨op=20∨op=21∨op=22∨op=23∨op=24:=by
   unfold qb2 at har
   simp at har
   split at har
   · omega
   split at har
   · omega
   split at har
   · omega
   · omega
  rcases hop with rfl | rfl | rfl | rfl | ho
  ·
   have e:unS C 9 a s=(if a.k=1 then qcd (qdn a.n) else .error (ab 1009),s):=rfl
   rw [e] at h
   have h:=hy h
   split at h
   · exact kind_exact h
   · cases h
  ·
   have e:unS C 18 a s=(if a.k=3 then .ok (vB (decide (a.n=0))) else .error (ab 1009),s):=rfl
   rw [e] at h
   have h:=hy h
   split at h
   · cases h;rfl
   · cases h
  ·
   have e:unS C 20 a s=(if a.k=1 then textS (C.fmt a.n) else .error (ab 1009),s):=rfl
   rw [e] at h
   have h:=hy h
   split at h
   · exact kind_text h
   · cases h
  ·
   have e:unS C 21 a s=(if a.k=2 then .ok (vI a.s.size) else .error (ab 1009),s):=rfl
   rw [e] at h
   have h:=hy h
   split at h
   · cases h;rfl
   · cases h
  ·
   unfold unS at h
   rw [if_neg (by omega),if_neg (by omega),if_neg (by omega),if_neg (by omega)] at h
   by_cases hk:a.k≠2
   · rw [if_pos hk] at h;cases h
   rw [if_neg hk] at h
   rcases hx:qct C a.s s with ⟨z | w,m'⟩
   · rw [hx] at h;cases h
   ·
    rw [hx] at h
    have h:=hy h
    rcases ho with rfl | rfl | rfl
    ·
     have e:gotS 22 w=if w.k=0 then .ok (vI 0) else if w.k≠1 then .error (ab 1003) else .ok w:=by simp [gotS]
     rw [e] at h
     split at h
     · cases h;rfl
     split at h
     · cases h
     ·
      rename_i h2
      have hv:w=v:=by injection h
      have:w.k=1:=by omega
      rw [← hv,this];rfl
    ·
     have e:gotS 23 w=if w.k=0 then textS em else if w.k≠2 then .error (ab 1003) else .ok w:=by simp [gotS]
     rw [e] at h
     split at h
     · exact kind_text h
     split at h
     · cases h
     ·
      rename_i h2
      have hv:w=v:=by injection h
      have:w.k=2:=by omega
      rw [← hv,this];rfl
    ·
     have e:gotS 24 w=.ok (vB (!decide (w.k=0))):=by simp [gotS]
     rw [e] at h
     cases h;rfl
 ·
  rename_i a b
  have g:=hy h
  clear h hy
  have hop:(4≤op∧op≤8)∨(10≤op∧op≤17)∨op=19:=by
   unfold qb2 at har
   simp at har
   split at har
   · omega
   split at har
   · omega
   split at har
   · omega
   · omega
  unfold binS at g
  by_cases ho:op=4∨op=5∨op=6∨op=7∨op=8
  ·
   rw [if_pos ho] at g
   have:qbh op=1:=by unfold qbh qci;rw [if_neg (by omega),if_pos (by omega)]
   rw [this]
   split at g
   ·
    unfold qea at g
    repeat' split at g
    all_goals exact kind_exact g
   · cases g
  rw [if_neg ho] at g
  by_cases h16:op=16
  ·
   rw [if_pos h16] at g
   rw [h16]
   split at g
   · cases g;rfl
   · cases g
  rw [if_neg h16] at g
  by_cases h17:op=17
  ·
   rw [if_pos h17] at g
   rw [h17]
   split at g
   · cases g;rfl
   · cases g
  rw [if_neg h17] at g
  by_cases h19:op=19
  ·
   rw [if_pos h19] at g
   rw [h19]
   split at g
   · exact kind_text g
   · cases g
  rw [if_neg h19] at g
  unfold compS at g
  split at g
  ·
   cases g
   unfold qbh
   rw [if_pos (by omega)]
   rfl
  · cases g
 · cases h
theorem kind_ev {G vis:Vis} (hsub:subV vis G) {e:Ex} {d:Nat} {ty:Int} (hc:chkE e d=0) (hof:ofE vis e=(ty,0)) {s t:MS} {v:V} (hT:tyS G s) (h:evE C e s=(.ok v,t)):v.k=ty∧1≤ty∧ty≤3:=by
 have har:=qd8 hc
 rw [ofE_eq] at hof
 rw [evE_eq] at h
 have hk:∀ (op:Int),1≤(qci op).2∧(qci op).2≤3:=fun op=>by
  unfold qci
  repeat' split
  all_goals decide
 by_cases h3:e.op=3
 ·
  rw [if_pos h3] at hof
  rw [if_neg (by omega),if_neg (by omega),if_pos h3] at h
  have h:=congrArg Prod.fst h
  simp only at h
  split at h
  ·
   rename_i w hw
   cases h
   unfold varT at hof
   split at hof
   · cases hof
   ·
    rename_i u hu
    split at hof
    · cases hof
    ·
     cases hof
     exact ⟨hT _ _ _ hw (hsub _ _ hu),by omega,by omega⟩
  · cases h
 ·
  rw [if_neg h3] at hof
  split at hof
  ·
   rename_i he
   have:=congrArg Prod.snd hof
   simp only at this
   exact (he this).elim
  have hty:ty=qbh e.op:=by
   unfold qbh
   split at hof
   ·
    rename_i ho
    split at hof
    · cases hof
    · cases hof;rw [if_pos ho]
   ·
    rename_i ho
    rw [if_neg ho]
    split at hof
    · cases hof;rfl
    · cases hof
  have hr:1≤ty∧ty≤3:=by
   rw [hty];unfold qbh;split
   · omega
   · exact hk _
  refine ⟨?_,hr⟩
  rw [hty]
  split at h
  ·
   rename_i h1
   cases h
   unfold qbh qci
   rw [if_neg (by omega),if_pos (.inl h1)];rfl
  split at h
  ·
   rename_i h1
   cases h
   unfold qbh qci
   rw [if_neg (by omega),if_neg (by omega),if_pos (.inl h1)];rfl
  split at h
  · cases h
  ·
   rename_i l m' hL
   exact kind_op (by rw [evL_len hL];exact har) h
end
end Go.Cw
