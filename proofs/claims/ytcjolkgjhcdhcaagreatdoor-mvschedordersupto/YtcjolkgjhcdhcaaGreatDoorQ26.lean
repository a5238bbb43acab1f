/- Part 26 of a proof: CwMv, CwMw, CwOc, CwMx, CwMz -/
import Derived.Test.YtcjolkgjhcdhcaaGreatDoorQ25
set_option linter.all false

namespace Go.Cw
open Go Go.Abs
def qc8 (f:Foot):Foot:=if qbw f.all f.reads f.writes=true then f else ⟨true,[],[]⟩
def depS (a b:Foot):Bool:=if b.all=true then true else if a.all=true then decide (0<b.reads.length) else a.writes.any fun k=>hasK b.reads k
def depsOf (l:List Foot) (j:Nat) (f:Foot):List Nat:=(List.range j).filter fun i=>match l[i]? with | some g=>depS (qc8 g) (qc8 f) | none=>false
def visS (effs:List Eff) (done:List Bool) (s:List Pr):Nat→List Pr
 | 0=>s
 | i+1=>if done.getD i false=true then match effs[i]? with | some e=>qbm (visS effs done s i) e | none=>visS effs done s i else visS effs done s i
section
variable {fmt:Int→qag}
theorem applyE_get {s:List Pr} {e:Eff} (hs:qay s=true) (he:e.status=1→qbn e.writes=true) (k:qag):getP (qbm s e) k=if wroteS e k=true then getP e.writes k else getP s k:=by
 unfold qbm wroteS
 by_cases h:e.status=1
 ·
  have hw:=he h
  rw [if_pos ⟨h,hs,hw⟩]
  obtain ⟨w1,w2,w3⟩:=(qcj _).1 hw
  rw [getP_apply ((qc2 s).1 hs).2.2 w3 w1]
  simp [h]
 ·
  rw [if_neg (fun g=>h g.1)]
  simp [h]
theorem applyE_ok {s:List Pr} {e:Eff} (hs:qay s=true):qay (qbm s e)=true:=by
 unfold qbm
 split
 · rename_i h;exact applyP_ok hs h.2.2
 · exact hs
theorem applyE_no {s:List Pr} {e:Eff} (hs:qay s=false):qbm s e=s:=by
 unfold qbm
 rw [if_neg (fun h=>by rw [hs] at h;cases h.2.1)]
theorem applyE_rng {s:List Pr} {e:Eff} (hs:rngL s) (he:rngL e.writes):rngL (qbm s e):=by
 unfold qbm
 split
 · rename_i h;exact rngL_apply hs he h.2.1 h.2.2
 · exact hs
theorem applyE_len (s:List Pr) (e:Eff):(qbm s e).length≤s.length+e.writes.length:=by
 unfold qbm
 split
 · exact applyP_len _ _
 · omega
def serSt (fmt:Int→qag) (procs:List Proc) (s:List Pr) (l:List Txn) (i:Nat):List Pr:=(qbe fmt procs s (l.take i)).1
def serEf (fmt:Int→qag) (procs:List Proc) (s:List Pr) (l:List Txn) (i:Nat) (t:Txn):Eff:=(oneS fmt procs (serSt fmt procs s l i) t).2
theorem ser_succ {procs:List Proc} {s:List Pr} {l:List Txn} {i:Nat} (h:i<l.length):serSt fmt procs s l (i+1)=(oneS fmt procs (serSt fmt procs s l i) l[i]).1:=by
 unfold serSt
 rw [List.take_succ_eq_append_getElem h,round_snoc]
theorem roundS_len {procs:List Proc} {s:List Pr}:∀ (l:List Txn),(qbe fmt procs s l).2.length=l.length :=
 snoc_ind (by rfl) fun l t ih=>by rw [round_snoc];simp [ih]
theorem ser_effs {procs:List Proc} {s:List Pr}:∀ (l:List Txn) (i:Nat) (h:i<l.length),(qbe fmt procs s l).2[i]?=some (serEf fmt procs s l i l[i]):=by
 refine snoc_ind (fun i h=>by simp at h) fun l t ih i h=>?_
 rw [round_snoc]
 by_cases hi:i<l.length
 ·
  have:(qbe fmt procs s l).2[i]?=some (serEf fmt procs s l i l[i]):=ih i hi
  rw [List.getElem?_append_left (by rw [roundS_len];exact hi),this]
  unfold serEf serSt
  rw [List.getElem_append_left hi,List.take_append_of_le_length (by omega)]
 ·
  have e:i=l.length:=by simp at h;omega
  subst e
  have hl:=roundS_len (fmt:=fmt) (procs:=procs) (s:=s) l
  rw [List.getElem?_append_right (by omega),hl]
  simp [serEf,serSt]
structure MvIn (fmt:Int→qag) (procs:List Proc) (s:List Pr) (l:List Txn) (effs:List Eff) (done:List Bool):Prop where
 le:effs.length=l.length
 ld:done.length=l.length
 ok:∀ i (h:i<l.length),done.getD i false=true→effs[i]?=some (serEf fmt procs s l i l[i])
section
variable {procs:List Proc} {s:List Pr} {l:List Txn} {effs:List Eff} {done:List Bool}
theorem ser_one (hB:BatchIn fmt procs l) (hs:rngL s) {i:Nat} (h:i<l.length):OneOk (serSt fmt procs s l i) (oneS fmt procs (serSt fmt procs s l i) l[i]) :=
 one_ok hB.fmt hB.body (hB.args _ (List.getElem_mem h)) (round_ok hs _ (hB.take i)).rng
theorem ser_ok (hB:BatchIn fmt procs l) (hs:rngL s) (h0:qay s=true) (i:Nat):qay (serSt fmt procs s l i)=true:=(round_ok hs _ (hB.take i)).ok h0
theorem ser_no (hB:BatchIn fmt procs l) (hs:rngL s) (h0:qay s=false) (i:Nat):serSt fmt procs s l i=s:=(round_ok hs _ (hB.take i)).no h0
theorem vis_ok (h0:qay s=true):∀ i,qay (visS effs done s i)=true
 | 0=>h0
 | i+1=>by
  rw [visS]
  split
  ·
   split
   · exact applyE_ok (vis_ok h0 i)
   · exact vis_ok h0 i
  · exact vis_ok h0 i
theorem vis_no (h0:qay s=false):∀ i,visS effs done s i=s
 | 0=>rfl
 | i+1=>by
  rw [visS,vis_no h0 i]
  split
  ·
   split
   · exact applyE_no h0
   · rfl
  · rfl
theorem vis_get (hB:BatchIn fmt procs l) (hs:rngL s) (h0:qay s=true) (hI:MvIn fmt procs s l effs done) (k:qag):∀ i,i≤l.length→(∀ n (h:n<l.length),n<i→done.getD n false=false→wroteS (serEf fmt procs s l n l[n]) k=false)→getP (visS effs done s i) k=getP (serSt fmt procs s l i) k
 | 0,_,_=>by simp [visS,serSt,qbe]
 | i+1,hi,hw=>by
  have ih:=vis_get hB hs h0 hI k i (by omega) (fun n h hn=>hw n h (by omega))
  have hO:=ser_one hB hs (show i<l.length by omega)
  have hso:=ser_ok hB hs h0 i
  rw [ser_succ (by omega),hO.upd,applyE_get hso (fun h=>(hO.com h).2),visS]
  rcases hd:done.getD i false with _ | _
  ·
   rw [if_neg (by simp),ih]
   have:=hw i (by omega) (by omega) hd
   unfold serEf at this
   rw [if_neg (by simp [this])]
  ·
   rw [if_pos rfl,hI.ok i (by omega) hd]
   simp only
   unfold serEf
   rw [applyE_get (vis_ok h0 i) (fun h=>(hO.com h).2),ih]
theorem vis_all (hB:BatchIn fmt procs l) (hs:rngL s) (hI:MvIn fmt procs s l effs done):∀ i,i≤l.length→(∀ n,n<i→done.getD n false=true)→visS effs done s i=serSt fmt procs s l i
 | 0,_,_=>by simp [visS,serSt,qbe]
 | i+1,hi,hd=>by
  have ih:=vis_all hB hs hI i (by omega) (fun n hn=>hd n (by omega))
  have hO:=ser_one hB hs (show i<l.length by omega)
  rw [ser_succ (by omega),hO.upd,visS,if_pos (hd i (by omega)),hI.ok i (by omega) (hd i (by omega)),ih]
  rfl
theorem one_foot_reads {t:Txn} {k:qag} (h:k∈(oneS fmt procs s t).2.reads):qbw t.ft.all t.ft.reads t.ft.writes=true∧(t.ft.all=true∨hasK t.ft.reads k=true):=by
 unfold oneS at h
 split at h
 · cases h
 ·
  rename_i p hp
  have h:k∈(runS fmt p t.args s t.ft).reads:=by split at h<;>exact h
  refine ⟨?_,(run_reads h).2.2⟩
  by_cases hr:runOk p t.args s t.ft
  · exact ((qbt _ _ _ _).1 hr).2.2.2
  · rw [qde hr] at h;cases h
theorem one_foot_writes {t:Txn} {k:qag} (hB:BatchIn fmt procs [t]) (hs:rngL s) (h:wroteS (oneS fmt procs s t).2 k=true):qbw t.ft.all t.ft.reads t.ft.writes=true∧(t.ft.all=true∨hasK t.ft.writes k=true):=by
 unfold oneS at h
 split at h
 · simp [wroteS,wrongE] at h
 ·
  rename_i p hp
  have h:wroteS (runS fmt p t.args s t.ft) k=true:=by split at h<;>exact h
  unfold wroteS at h
  simp only [Bool.and_eq_true,decide_eq_true_eq] at h
  have hI:RunIn fmt p t.args s:=⟨hB.fmt,hB.body p (findP_mem hp).1,hB.args t (by simp),hs⟩
  have hc:=(run_commit (ft:=t.ft) hI h.1).1
  have hk:k∈(runS fmt p t.args s t.ft).puts:=by rw [← hc];exact hasP_iff.1 h.2
  refine ⟨?_,(run_puts hk).2⟩
  by_cases hr:runOk p t.args s t.ft
  · exact ((qbt _ _ _ _).1 hr).2.2.2
  · rw [qde hr] at h;simp [wrongE] at h
theorem mv_step (hB:BatchIn fmt procs l) (hs:rngL s) (hI:MvIn fmt procs s l effs done) {j:Nat} (hj:j<l.length) (hr:∀ i∈depsOf (l.map (·.ft)) j l[j].ft,done.getD i false=true):(oneS fmt procs (visS effs done s j) l[j]).2=serEf fmt procs s l j l[j]:=by
 unfold serEf
 rcases h0:qay s with _ | _
 · rw [vis_no h0,ser_no hB hs h0]
 have hdep:∀ n (h:n<l.length),n<j→done.getD n false=false→depS (qc8 l[n].ft) (qc8 l[j].ft)=false:=fun n h hn hd=>by
  rcases hx:depS (qc8 l[n].ft) (qc8 l[j].ft) with _ | _
  · rfl
  ·
   have:n∈depsOf (l.map (·.ft)) j l[j].ft:=by
    unfold depsOf
    rw [List.mem_filter,List.mem_range]
    refine ⟨hn,?_⟩
    rw [List.getElem?_map,List.getElem?_eq_getElem h]
    simpa using hx
   rw [hr n this] at hd;cases hd
 by_cases hall:∀ n,n<j→done.getD n false=true
 · rw [vis_all hB hs hI j (by omega) hall]
 ·
  refine one_same (ser_ok hB hs h0 j) (vis_ok h0 j) fun k hk=>?_
  obtain ⟨hf,hm⟩:=one_foot_reads hk
  refine (vis_get hB hs h0 hI k j (by omega) fun n h hn hd=>?_).symm
  have hd':=hdep n h hn hd
  have ej:qc8 l[j].ft=l[j].ft:=by unfold qc8;rw [if_pos hf]
  rw [ej] at hd'
  unfold depS at hd'
  split at hd'
  · cases hd'
  rename_i hja
  have hkr:hasK l[j].ft.reads k=true:=by
   rcases hm with h | h
   · exact (hja h).elim
   · exact h
  rcases hw:wroteS (serEf fmt procs s l n l[n]) k with _ | _
  · rfl
  ·
   obtain ⟨hfn,hmn⟩:=one_foot_writes (fmt:=fmt) (procs:=procs) (s:=serSt fmt procs s l n) (t:=l[n]) ⟨hB.fmt,hB.body,fun x hx=>by simp at hx;subst hx;exact hB.args _ (List.getElem_mem h)⟩ (round_ok hs _ (hB.take n)).rng hw
   have en:qc8 l[n].ft=l[n].ft:=by unfold qc8;rw [if_pos hfn]
   rw [en] at hd'
   split at hd'
   ·
    have:l[j].ft.reads≠[]:=by
     intro e;rw [e] at hkr;simp [hasK,anyL] at hkr
    have:=List.length_pos_iff.2 this
    simp [this] at hd'
   ·
    rename_i hna
    have hkw:hasK l[n].ft.writes k=true:=by
     rcases hmn with h | h
     · exact (hna h).elim
     · exact h
    rw [List.any_eq_false] at hd'
    exact (hd' k (hasK_iff.1 hkw) hkr).elim
end
end
end Go.Cw

namespace Go.Cw
open Go Go.Abs
theorem nodup_sub:∀ (l m:List Nat),l.Nodup→(∀ x∈l,x∈m)→l.length≤m.length
 | [],m,_,_=>by simp
 | x::l,m,hd,h=>by
  have hx:=h x (by simp)
  have hd':=List.nodup_cons.1 hd
  have h1:=nodup_sub l (m.erase x) hd'.2 (fun y hy=>(List.mem_erase_of_ne (by rintro rfl;exact hd'.1 hy)).2 (h y (by simp [hy])))
  rw [List.length_erase_of_mem hx] at h1
  have h2:0<m.length:=List.length_pos_of_mem hx
  simp only [List.length_cons]
  omega
theorem nodup_len (n:Nat) (l:List Nat) (hd:l.Nodup) (h:∀ x∈l,x<n):l.length≤n:=by
 have:=nodup_sub l (List.range n) hd (fun x hx=>List.mem_range.2 (h x hx))
 simpa using this
theorem least {P:Nat→Prop} (h:∃ n,P n):∃ n,P n∧∀ i,i<n→¬ P i:=by
 obtain ⟨n,hn⟩:=h
 induction n using Nat.strongRecOn with
 | ind n ih =>
  by_cases hc:∃ i,i<n∧P i
  ·
   obtain ⟨i,hi,hp⟩:=hc
   exact ih i hi hp
  · exact ⟨n,hn,fun i hi hp=>hc ⟨i,hi,hp⟩⟩
theorem nodup_all {n:Nat} {l:List Nat} (hd:l.Nodup) (h:∀ x∈l,x<n) (hl:l.length=n):∀ j,j<n→j∈l:=fun j hj=>by
 by_cases hm:j∈l
 · exact hm
 ·
  have h1:=nodup_len n (j::l) (List.nodup_cons.2 ⟨hm,hd⟩) (fun x hx=>by
   rcases List.mem_cons.1 hx with rfl | hx
   · exact hj
   · exact h x hx)
  simp at h1
  omega
def zeroE:Eff:=⟨0,0,[],[],[],[],em,0⟩
def depsL (fs:List Foot) (j:Nat):List Nat:=match fs[j]? with | some f=>depsOf fs j f | none=>[]
def readyS (fs:List Foot) (done:List Bool) (j:Nat):Bool:=!done.getD j false&&(depsL fs j).all fun i=>done.getD i false
def candS (fs:List Foot) (done:List Bool):List Nat:=(List.range fs.length).filter (readyS fs done)
def choiceS (choices:List Int) (step n:Nat):Nat:=match choices[step]? with | some c=>if c<0 then 0 else (c.toNat % n) | none=>0
section
variable (fmt:Int→qag)
def mvStep (procs:List Proc) (s:List Pr) (l:List Txn) (choices:List Int) (x:List Eff×List Bool×List Nat) (step:Nat):List Eff×List Bool×List Nat :=
 let c:=candS (l.map (·.ft)) x.2.1
 let j:=c.getD (choiceS choices step c.length) 0
 (x.1.set j (match l[j]? with | some t=>(oneS fmt procs (visS x.1 x.2.1 s j) t).2 | none=>zeroE),x.2.1.set j true,x.2.2++[j])
def mvN (procs:List Proc) (s:List Pr) (l:List Txn) (choices:List Int) (n:Nat):List Eff×List Bool×List Nat:=(List.range n).foldl (mvStep fmt procs s l choices) (List.replicate l.length zeroE,List.replicate l.length false,[])
end
theorem depsL_lt {fs:List Foot} {j i:Nat} (h:i∈depsL fs j):i<j:=by
 unfold depsL depsOf at h
 split at h
 · exact List.mem_range.1 (List.mem_filter.1 h).1
 · cases h
structure MvJ (fmt:Int→qag) (procs:List Proc) (s:List Pr) (l:List Txn) (n:Nat) (x:List Eff×List Bool×List Nat):Prop where
 inv:MvIn fmt procs s l x.1 x.2.1
 len:x.2.2.length=n
 nod:x.2.2.Nodup
 mem:∀ j,x.2.1.getD j false=true↔j∈x.2.2
 lt:∀ j∈x.2.2,j<l.length
 dep:∀ a (h:a<x.2.2.length),∀ i∈depsL (l.map (·.ft)) x.2.2[a],i∈x.2.2.take a
section
variable {fmt:Int→qag} {procs:List Proc} {s:List Pr} {l:List Txn} {choices:List Int}
theorem mvN_succ (n:Nat):mvN fmt procs s l choices (n+1)=mvStep fmt procs s l choices (mvN fmt procs s l choices n) n:=by
 unfold mvN
 rw [List.range_succ,List.foldl_append]
 rfl
theorem cand_ne {n:Nat} {x:List Eff×List Bool×List Nat} (hJ:MvJ fmt procs s l n x) (hn:n<l.length):0<(candS (l.map (·.ft)) x.2.1).length:=by
 have hex:∃ j,j<l.length∧x.2.1.getD j false=false:=by
  refine Classical.byContradiction fun hno=>?_
  have hall:∀ j,j<l.length→j∈x.2.2:=fun j hj=>(hJ.mem j).1 (by
   rcases hd:x.2.1.getD j false with _ | _
   · exact (hno ⟨j,hj,hd⟩).elim
   · rfl)
  have h1:=nodup_sub (List.range l.length) x.2.2 List.nodup_range (fun j hj=>hall j (List.mem_range.1 hj))
  have h2:=hJ.len
  simp at h1
  omega
 obtain ⟨j,⟨hj,hd⟩,hlt⟩:=least hex
 refine List.length_pos_of_mem (a:=j) ?_
 unfold candS readyS
 rw [List.mem_filter,List.mem_range]
 refine ⟨by simpa using hj,?_⟩
 rw [hd]
 simp only [Bool.not_false,Bool.true_and,List.all_eq_true]
 intro i hi
 have h3:=depsL_lt hi
 rcases hd':x.2.1.getD i false with _ | _
 · exact (hlt i h3 ⟨by omega,hd'⟩).elim
 · rfl
theorem choice_lt {step n:Nat} (h:0<n):choiceS choices step n<n:=by
 unfold choiceS
 split
 ·
  split
  · exact h
  · exact Nat.mod_lt _ h
 · exact h
theorem mv_j0:MvJ fmt procs s l 0 (mvN fmt procs s l choices 0):=by
 refine ⟨⟨by simp [mvN],by simp [mvN],fun i h hd=>?_⟩,rfl,by simp [mvN],fun j=>?_,by simp [mvN],fun a h=>by simp [mvN] at h⟩
 · simp [mvN,List.getD_eq_getElem?_getD,List.getElem?_replicate,h] at hd
 ·
  simp only [mvN,List.range_zero,List.foldl_nil,List.not_mem_nil,iff_false,Bool.not_eq_true]
  rw [List.getD_eq_getElem?_getD,List.getElem?_replicate]
  split<;>rfl
theorem mv_js (hB:BatchIn fmt procs l) (hs:rngL s) {n:Nat} {x:List Eff×List Bool×List Nat} (hJ:MvJ fmt procs s l n x) (hn:n<l.length):MvJ fmt procs s l (n+1) (mvStep fmt procs s l choices x n):=by
 have hc:=cand_ne hJ hn
 have hlt:=choice_lt (choices:=choices) (step:=n) hc
 obtain ⟨c,hcd⟩:∃ c,candS (l.map (·.ft)) x.2.1=c:=⟨_,rfl⟩
 rw [hcd] at hc hlt
 obtain ⟨j,hj⟩:∃ j,c.getD (choiceS choices n c.length) 0=j:=⟨_,rfl⟩
 have hjm:j∈c:=by
  rw [← hj,List.getD_eq_getElem?_getD,List.getElem?_eq_getElem hlt]
  exact List.getElem_mem hlt
 rw [← hcd] at hjm
 unfold candS readyS at hjm
 rw [List.mem_filter,List.mem_range,Bool.and_eq_true,List.all_eq_true] at hjm
 obtain ⟨hjl,hjd,hdep⟩:=hjm
 have hjl:j<l.length:=by simpa using hjl
 have hjd:x.2.1.getD j false=false:=by simpa using hjd
 have hnm:j∉x.2.2:=fun h=>by rw [(hJ.mem j).2 h] at hjd;cases hjd
 have hE:mvStep fmt procs s l choices x n=(x.1.set j (serEf fmt procs s l j l[j]),x.2.1.set j true,x.2.2++[j]):=by
  unfold mvStep
  simp only [hcd,hj,List.getElem?_eq_getElem hjl]
  rw [mv_step hB hs hJ.inv hjl (fun i hi=>hdep i (by
   unfold depsL
   rw [List.getElem?_map,List.getElem?_eq_getElem hjl]
   exact hi))]
 rw [hE]
 have hgd:∀ i,(x.2.1.set j true).getD i false=true↔i=j∨x.2.1.getD i false=true:=fun i=>by
  rw [List.getD_eq_getElem?_getD,List.getD_eq_getElem?_getD,List.getElem?_set]
  by_cases h:j=i
  ·
   subst h
   simp [hJ.inv.ld,hjl]
  ·
   have h':¬ i=j:=fun e=>h e.symm
   simp [h,h']
 refine ⟨⟨by simp [hJ.inv.le],by simp [hJ.inv.ld],fun i h hd=>?_⟩,by simp [hJ.len],?_,fun i=>?_,fun i hi=>?_,fun a h i hi=>?_⟩
 ·
  rw [List.getElem?_set]
  by_cases e:j=i
  ·
   subst e
   simp [hJ.inv.le,hjl]
  ·
   rw [if_neg e]
   refine hJ.inv.ok i h ?_
   rcases (hgd i).1 hd with e' | h'
   · exact (e e'.symm).elim
   · exact h'
 · exact List.nodup_append.2 ⟨hJ.nod,by simp,fun a ha b hb=>by simp at hb;subst hb;rintro rfl;exact hnm ha⟩
 ·
  rw [hgd,hJ.mem]
  simp [or_comm]
 ·
  rcases List.mem_append.1 hi with hi | hi
  · exact hJ.lt i hi
  · simp at hi;omega
 ·
  have hl:=hJ.len
  simp only [List.length_append,List.length_singleton] at h
  by_cases e:a<x.2.2.length
  ·
   simp only [List.getElem_append_left e] at hi
   have:=hJ.dep a e i hi
   simp only
   rw [List.take_append_of_le_length (by omega)]
   exact this
  ·
   have e2:a=x.2.2.length:=by omega
   subst e2
   simp only [List.getElem_concat_length] at hi
   have:=(hJ.mem i).1 (hdep i hi)
   simp only
   rw [List.take_append_of_le_length (by omega),List.take_length]
   exact this
theorem mv_all (hB:BatchIn fmt procs l) (hs:rngL s):∀ n,n≤l.length→MvJ fmt procs s l n (mvN fmt procs s l choices n)
 | 0,_=>mv_j0
 | n+1,h=>by
  rw [mvN_succ]
  exact mv_js hB hs (mv_all hB hs n (by omega)) (by omega)
theorem mv_serial (hB:BatchIn fmt procs l) (hs:rngL s):(mvN fmt procs s l choices l.length).1=(qbe fmt procs s l).2∧visS (mvN fmt procs s l choices l.length).1 (mvN fmt procs s l choices l.length).2.1 s l.length=(qbe fmt procs s l).1:=by
 have hJ:=mv_all (choices:=choices) hB hs l.length (Nat.le_refl _)
 have hall:∀ j,j<l.length→(mvN fmt procs s l choices l.length).2.1.getD j false=true:=fun j hj=>(hJ.mem j).2 (nodup_all hJ.nod hJ.lt hJ.len j hj)
 refine ⟨?_,?_⟩
 ·
  refine List.ext_getElem? fun i=>?_
  by_cases hi:i<l.length
  · rw [hJ.inv.ok i hi (hall i hi),ser_effs l i hi]
  · rw [List.getElem?_eq_none (by rw [hJ.inv.le];omega),List.getElem?_eq_none (by rw [roundS_len];omega)]
 ·
  rw [vis_all hB hs hJ.inv l.length (Nat.le_refl _) hall]
  unfold serSt
  rw [List.take_length]
end
end Go.Cw

namespace Go.Cw
open Go Go.Abs
def meetS (a b:List qag):Bool:=a.any fun k=>hasK b k
def qcx (a b:Foot):Bool :=
 if qbw a.all a.reads a.writes=false∨qbw b.all b.reads b.writes=false∨a.all=true∨b.all=true then true
 else meetS a.writes b.writes||(meetS a.writes b.reads||meetS a.reads b.writes)
section
variable {fmt:Int→qag} {procs:List Proc} {s:List Pr}
end
end Go.Cw

namespace Go.Cw
open Go Go.Abs
theorem footOk_top:qbw true [] []=true:=by simp [qbw]
theorem effF_ok (f:Foot):qbw (qc8 f).all (qc8 f).reads (qc8 f).writes=true:=by
 unfold qc8
 split
 · assumption
 · exact footOk_top
theorem conflS_eff (a b:Foot):qcx (qc8 a) (qc8 b)=qcx a b:=by
 unfold qcx
 have h1:=effF_ok a
 have h2:=effF_ok b
 by_cases ha:qbw a.all a.reads a.writes=true
 ·
  have ea:qc8 a=a:=by unfold qc8;rw [if_pos ha]
  by_cases hb:qbw b.all b.reads b.writes=true
  ·
   have eb:qc8 b=b:=by unfold qc8;rw [if_pos hb]
   rw [ea,eb]
  ·
   have eb:qc8 b=⟨true,[],[]⟩:=by unfold qc8;rw [if_neg hb]
   rw [eb,if_pos (by simp),if_pos (by simp [hb])]
 ·
  have ea:qc8 a=⟨true,[],[]⟩:=by unfold qc8;rw [if_neg ha]
  rw [ea,if_pos (by simp),if_pos (by simp [ha])]
def depR (a b:Foot):Bool:=(qc8 b).all||((qc8 a).all&&decide (0<(qc8 b).reads.length))||(qc8 a).writes.any fun k=>hasK (qc8 b).reads k
theorem depR_eq (a b:Foot):depR a b=depS (qc8 a) (qc8 b):=by
 unfold depR depS
 have ha:=effF_ok a
 by_cases h1:(qc8 b).all=true
 · simp [h1]
 ·
  by_cases h2:(qc8 a).all=true
  ·
   unfold qbw at ha
   rw [if_pos h2] at ha
   simp only [Bool.and_eq_true,decide_eq_true_eq] at ha
   have:(qc8 a).writes=[]:=List.length_eq_zero_iff.1 ha.2
   simp [h1,h2,this]
  · simp [h1,h2]
theorem dep_confl {a b:Foot} (h:depS (qc8 a) (qc8 b)=true):qcx a b=true:=by
 rw [← conflS_eff]
 unfold depS at h
 unfold qcx
 split
 · rfl
 ·
  rename_i hc
  simp only [not_or] at hc
  rw [if_neg hc.2.2.2,if_neg hc.2.2.1] at h
  have:meetS (qc8 a).writes (qc8 b).reads=true:=h
  simp [this]
theorem nodup_subG {α:Type} [DecidableEq α]:∀ (l m:List α),l.Nodup→(∀ x∈l,x∈m)→l.length≤m.length
 | [],m,_,_=>by simp
 | x::l,m,hd,h=>by
  have hx:=h x (by simp)
  have hd':=List.nodup_cons.1 hd
  have h1:=nodup_subG l (m.erase x) hd'.2 (fun y hy=>(List.mem_erase_of_ne (by rintro rfl;exact hd'.1 hy)).2 (h y (by simp [hy])))
  rw [List.length_erase_of_mem hx] at h1
  have h2:0<m.length:=List.length_pos_of_mem hx
  simp only [List.length_cons]
  omega
def upP (n:Nat):List (Nat×Nat):=(List.range n).flatMap fun j=>(List.range j).map fun i=>(i,j)
def loP (n m:Nat):List (Nat×Nat):=(List.range m).flatMap fun a=>(List.range' (a+1) (n - (a+1))).map fun b=>(a,b)
theorem upP_succ (n:Nat):upP (n+1)=upP n++(List.range n).map fun i=>(i,n):=by simp [upP,List.range_succ]
theorem loP_succ (n m:Nat):loP n (m+1)=loP n m++(List.range' (m+1) (n - (m+1))).map fun b=>(m,b):=by simp [loP,List.range_succ]
theorem mem_upP {n:Nat} {p:Nat×Nat}:p∈upP n↔p.1<p.2∧p.2<n:=by
 obtain ⟨i,j⟩:=p
 simp only [upP,List.mem_flatMap,List.mem_range,List.mem_map,Prod.mk.injEq]
 constructor
 · rintro ⟨a,ha,b,hb,rfl,rfl⟩;exact ⟨hb,ha⟩
 · rintro ⟨h1,h2⟩;exact ⟨j,h2,i,h1,rfl,rfl⟩
theorem mem_loP {n m:Nat} {p:Nat×Nat}:p∈loP n m↔p.1<p.2∧p.2<n∧p.1<m:=by
 obtain ⟨i,j⟩:=p
 simp only [loP,List.mem_flatMap,List.mem_range,List.mem_map,Prod.mk.injEq,List.mem_range'_1]
 constructor
 · rintro ⟨a,ha,b,hb,rfl,rfl⟩;omega
 · rintro ⟨h1,h2,h3⟩;exact ⟨i,h3,j,by omega,rfl,rfl⟩
theorem nodup_inj {α β:Type} {f:α→β} {l:List α} (hf:∀ a∈l,∀ b∈l,f a=f b→a=b) (h:l.Nodup):(l.map f).Nodup:=by
 induction l with
 | nil=>simp
 | cons x l ih =>
  have hd:=List.nodup_cons.1 h
  rw [List.map_cons,List.nodup_cons]
  refine ⟨fun hm=>?_,ih (fun a ha b hb=>hf a (by simp [ha]) b (by simp [hb])) hd.2⟩
  obtain ⟨y,hy,e⟩:=List.mem_map.1 hm
  have:=hf y (by simp [hy]) x (by simp) e
  subst this
  exact hd.1 hy
theorem nodup_upP:∀ n,(upP n).Nodup
 | 0=>by simp [upP]
 | n+1=>by
  rw [upP_succ,List.nodup_append]
  refine ⟨nodup_upP n,nodup_inj (fun a _ b _ e=>by simpa using e) List.nodup_range,?_⟩
  rintro ⟨a,b⟩ ha ⟨c,d⟩ hc e
  have h1:=mem_upP.1 ha
  simp only [List.mem_map,Prod.mk.injEq] at hc
  obtain ⟨i,hi,rfl,rfl⟩:=hc
  cases e
  simp only at h1
  omega
theorem nodup_loP (n:Nat):∀ m,(loP n m).Nodup
 | 0=>by simp [loP]
 | m+1=>by
  rw [loP_succ,List.nodup_append]
  refine ⟨nodup_loP n m,nodup_inj (fun a _ b _ e=>by simpa using e) List.nodup_range',?_⟩
  rintro ⟨a,b⟩ ha ⟨c,d⟩ hc e
  have h1:=mem_loP.1 ha
  simp only [List.mem_map,Prod.mk.injEq] at hc
  obtain ⟨i,hi,rfl,rfl⟩:=hc
  cases e
  simp only at h1
  omega
structure Ord (n:Nat) (o:List Nat) (at':List Int):Prop where
 len:o.length=n
 la:at'.length=n
 lt:∀ k∈o,k<n
 nod:o.Nodup
 at_:∀ a (h:a<o.length),at'.getD o[a] (-1)=a
theorem Ord.get {n:Nat} {o:List Nat} {at':List Int} (h:Ord n o at') {k:Nat} (hk:k<n):∃ a,∃ ha:a<o.length,o[a]=k∧at'.getD k (-1)=a:=by
 have hm:=nodup_all h.nod h.lt h.len k hk
 obtain ⟨a,ha,rfl⟩:=List.mem_iff_getElem.1 hm
 exact ⟨a,ha,rfl,h.at_ a ha⟩
def earlyUp (at':List Int) (C:Nat→Nat→Bool) (n:Nat):Nat:=((upP n).filter fun p=>decide (at'.getD p.2 (-1)<at'.getD p.1 (-1))&&C p.1 p.2).length
def earlyLo (o:List Nat) (C:Nat→Nat→Bool) (n m:Nat):Nat:=((loP n m).filter fun p=>decide (o.getD p.2 0<o.getD p.1 0)&&C (o.getD p.2 0) (o.getD p.1 0)).length
theorem early_eq {n:Nat} {o:List Nat} {at':List Int} (h:Ord n o at') (C:Nat→Nat→Bool):earlyUp at' C n=earlyLo o C n n:=by
 have hl:=h.len
 refine Nat.le_antisymm ?_ ?_
 ·
  have hf:∀ p∈(upP n).filter (fun p=>decide (at'.getD p.2 (-1)<at'.getD p.1 (-1))&&C p.1 p.2),∃ a b,∃ (ha:a<o.length) (hb:b<o.length),o[a]=p.2∧o[b]=p.1∧at'.getD p.2 (-1)=a∧at'.getD p.1 (-1)=b∧a<b∧p.1<p.2∧C p.1 p.2=true:=fun p hp=>by
   obtain ⟨h1,h2⟩:=List.mem_filter.1 hp
   have h3:=mem_upP.1 h1
   simp only [Bool.and_eq_true,decide_eq_true_eq] at h2
   obtain ⟨a,ha,e1,e2⟩:=h.get h3.2
   obtain ⟨b,hb,e3,e4⟩:=h.get (Nat.lt_trans h3.1 h3.2)
   refine ⟨a,b,ha,hb,e1,e3,e2,e4,?_,h3.1,h2.2⟩
   rw [e2,e4] at h2
   omega
  have hg:=nodup_inj (f:=fun p:Nat×Nat=>((at'.getD p.2 (-1)).toNat,(at'.getD p.1 (-1)).toNat)) (l:=(upP n).filter fun p=>decide (at'.getD p.2 (-1)<at'.getD p.1 (-1))&&C p.1 p.2) (fun p hp q hq e=>by
   obtain ⟨a,b,ha,hb,e1,e2,e3,e4,_⟩:=hf p hp
   obtain ⟨a',b',ha',hb',f1,f2,f3,f4,_⟩:=hf q hq
   simp only [e3,e4,f3,f4,Int.toNat_natCast,Prod.mk.injEq] at e
   obtain ⟨rfl,rfl⟩:=e
   exact Prod.ext (e2.symm.trans f2) (e1.symm.trans f1)) ((nodup_upP n).filter _)
  have:=nodup_subG _ ((loP n n).filter fun p=>decide (o.getD p.2 0<o.getD p.1 0)&&C (o.getD p.2 0) (o.getD p.1 0)) hg (fun x hx=>by
   obtain ⟨p,hp,rfl⟩:=List.mem_map.1 hx
   obtain ⟨a,b,ha,hb,e1,e2,e3,e4,hab,hlt,hC⟩:=hf p hp
   simp only [e3,e4,Int.toNat_natCast]
   refine List.mem_filter.2 ⟨mem_loP.2 ⟨hab,by simp only;omega,by simp only;omega⟩,?_⟩
   have g1:o.getD a 0=p.2:=by rw [List.getD_eq_getElem?_getD,List.getElem?_eq_getElem ha,e1];rfl
   have g2:o.getD b 0=p.1:=by rw [List.getD_eq_getElem?_getD,List.getElem?_eq_getElem hb,e2];rfl
   simp only [g1,g2,hC,Bool.and_true,decide_eq_true_eq]
   exact hlt)
  rw [List.length_map] at this
  exact this
 ·
  have hf:∀ p∈(loP n n).filter (fun p=>decide (o.getD p.2 0<o.getD p.1 0)&&C (o.getD p.2 0) (o.getD p.1 0)),∃ (h1:p.1<o.length) (h2:p.2<o.length),o.getD p.1 0=o[p.1]∧o.getD p.2 0=o[p.2]∧p.1<p.2∧o[p.2]<o[p.1]∧C o[p.2] o[p.1]=true:=fun p hp=>by
   obtain ⟨h1,h2⟩:=List.mem_filter.1 hp
   have h3:=mem_loP.1 h1
   simp only [Bool.and_eq_true,decide_eq_true_eq] at h2
   have l1:p.1<o.length:=by omega
   have l2:p.2<o.length:=by omega
   have g1:o.getD p.1 0=o[p.1]:=by rw [List.getD_eq_getElem?_getD,List.getElem?_eq_getElem l1];rfl
   have g2:o.getD p.2 0=o[p.2]:=by rw [List.getD_eq_getElem?_getD,List.getElem?_eq_getElem l2];rfl
   rw [g1,g2] at h2
   exact ⟨l1,l2,g1,g2,h3.1,h2⟩
  have hg:=nodup_inj (f:=fun p:Nat×Nat=>(o.getD p.2 0,o.getD p.1 0)) (l:=(loP n n).filter fun p=>decide (o.getD p.2 0<o.getD p.1 0)&&C (o.getD p.2 0) (o.getD p.1 0)) (fun p hp q hq e=>by
   obtain ⟨a1,a2,a3,a4,_⟩:=hf p hp
   obtain ⟨b1,b2,b3,b4,_⟩:=hf q hq
   simp only [a3,a4,b3,b4,Prod.mk.injEq] at e
   exact Prod.ext ((List.getElem_inj h.nod).1 e.2) ((List.getElem_inj h.nod).1 e.1)) ((nodup_loP n n).filter _)
  have:=nodup_subG _ ((upP n).filter fun p=>decide (at'.getD p.2 (-1)<at'.getD p.1 (-1))&&C p.1 p.2) hg (fun x hx=>by
   obtain ⟨p,hp,rfl⟩:=List.mem_map.1 hx
   obtain ⟨l1,l2,g1,g2,hab,hlt,hC⟩:=hf p hp
   simp only [g1,g2]
   refine List.mem_filter.2 ⟨mem_upP.2 ⟨hlt,h.lt _ (List.getElem_mem l1)⟩,?_⟩
   simp only [h.at_ _ l1,h.at_ _ l2,hC,Bool.and_true,decide_eq_true_eq]
   omega)
  rw [List.length_map] at this
  exact this
theorem early_zero {o:List Nat} {C:Nat→Nat→Bool} {n:Nat}:earlyLo o C n n=0↔∀ a b,a<b→b<n→¬ (o.getD b 0<o.getD a 0∧C (o.getD b 0) (o.getD a 0)=true):=by
 unfold earlyLo
 rw [List.length_eq_zero_iff,List.filter_eq_nil_iff]
 constructor
 ·
  intro h a b hab hb hc
  exact h (a,b) (mem_loP.2 ⟨hab,hb,by simp only;omega⟩) (by simp only [hc.2,Bool.and_true,decide_eq_true_eq];exact hc.1)
 ·
  rintro h ⟨a,b⟩ hm
  have h1:=mem_loP.1 hm
  simp only [Bool.and_eq_true,decide_eq_true_eq]
  exact h a b h1.1 h1.2.1
end Go.Cw

namespace Go.Cw
open Go Go.Abs
def atF (n:Nat):List Int→Nat→List Int→Option (List Int)
 | [],_,m=>some m
 | k::o,i,m=>if k<0∨(n:Int)≤k∨0≤m.getD k.toNat (-1) then none else atF n o (i+1) (m.set k.toNat i)
def permF (n:Nat):List Int→List Bool→Bool
 | [],_=>true
 | k::o,m=>if k<0∨(n:Int)≤k∨m.getD k.toNat false=true then false else permF n o (m.set k.toNat true)
structure Pl (n:Nat) (q:List Nat) (m:List Int):Prop where
 la:m.length=n
 lt:∀ k∈q,k<n
 nod:q.Nodup
 ok:∀ a (h:a<q.length),m.getD q[a] (-1)=a
 no:∀ k,k∉q→m.getD k (-1) = -1
theorem getD_set {α:Type} (m:List α) (k j:Nat) (v d:α) (h:k<m.length):(m.set k v).getD j d=if k=j then v else m.getD j d:=by
 simp only [List.getD_eq_getElem?_getD,List.getElem?_set]
 split
 · simp [h]
 · rfl
theorem Pl.mem {n:Nat} {q:List Nat} {m:List Int} (h:Pl n q m) (k:Nat):0≤m.getD k (-1)↔k∈q:=by
 constructor
 ·
  intro h0
  by_cases hk:k∈q
  · exact hk
  · rw [h.no k hk] at h0;omega
 ·
  intro hk
  obtain ⟨a,ha,rfl⟩:=List.mem_iff_getElem.1 hk
  rw [h.ok a ha];omega
theorem Pl.step {n:Nat} {q:List Nat} {m:List Int} (h:Pl n q m) {k:Nat} (hk:k<n) (hq:k∉q):Pl n (q++[k]) (m.set k q.length):=by
 have hl:k<m.length:=by rw [h.la];exact hk
 refine ⟨by simp [h.la],fun x hx=>?_,?_,fun a ha=>?_,fun x hx=>?_⟩
 ·
  rcases List.mem_append.1 hx with hx | hx
  · exact h.lt x hx
  · simp at hx;omega
 ·
  rw [List.nodup_append]
  refine ⟨h.nod,by simp,fun x hx y hy e=>?_⟩
  simp at hy
  subst hy e
  exact hq hx
 ·
  rw [getD_set _ _ _ _ _ hl]
  by_cases h1:a<q.length
  ·
   rw [List.getElem_append_left h1,if_neg (fun e=>hq (by rw [e];exact List.getElem_mem h1))]
   exact h.ok a h1
  ·
   have:a=q.length:=by simp at ha;omega
   subst this
   simp
 ·
  simp only [List.mem_append,List.mem_singleton,not_or] at hx
  rw [getD_set _ _ _ _ _ hl,if_neg (fun e=>hx.2 e.symm)]
  exact h.no x hx.1
theorem Pl.nil (n:Nat):Pl n [] (List.replicate n (-1)):=⟨by simp,by simp,by simp,by simp,fun k _=>by
 simp only [List.getD_eq_getElem?_getD,List.getElem?_replicate]
 split<;>rfl⟩
def okO (n:Nat) (q:List Nat) (o:List Int):Prop:=(∀ k∈o,0≤k∧k<n)∧(q++o.map Int.toNat).Nodup
theorem okO_cons {n:Nat} {q:List Nat} {k:Int} {o:List Int} (hq:q.Nodup):okO n q (k::o)↔(0≤k∧k<n∧k.toNat∉q)∧okO n (q++[k.toNat]) o:=by
 unfold okO
 simp only [List.mem_cons,forall_eq_or_imp,List.map_cons]
 have e:q++[k.toNat]++o.map Int.toNat=q++k.toNat::o.map Int.toNat:=by simp
 rw [e]
 constructor
 ·
  rintro ⟨⟨h1,h2⟩,h3⟩
  refine ⟨⟨h1.1,h1.2,fun hm=>?_⟩,h2,h3⟩
  exact (List.nodup_append.1 h3).2.2 _ hm _ (by simp) rfl
 ·
  rintro ⟨⟨h1,h2,h3⟩,h4,h5⟩
  exact ⟨⟨⟨h1,h2⟩,h4⟩,h5⟩
theorem atF_spec {n:Nat}:∀ (o:List Int) (q:List Nat) (m:List Int),Pl n q m →
  (∀ m',atF n o q.length m=some m'→okO n q o∧Pl n (q++o.map Int.toNat) m')∧(atF n o q.length m=none→¬ okO n q o)
 | [],q,m,h=>by
  simp only [atF,Option.some.injEq,List.map_nil,List.append_nil,reduceCtorEq,false_implies,and_true]
  rintro m' rfl
  exact ⟨⟨by simp,by simpa using h.nod⟩,h⟩
 | k::o,q,m,h=>by
  rw [atF]
  have hm:=h.mem k.toNat
  split
  ·
   rename_i hc
   refine ⟨by simp,fun _ hO=>?_⟩
   have:=((okO_cons h.nod).1 hO).1
   rcases hc with hc | hc | hc
   · omega
   · omega
   · exact this.2.2 (hm.1 hc)
  ·
   rename_i hc
   simp only [not_or] at hc
   have hq:k.toNat∉q:=fun g=>hc.2.2 (hm.2 g)
   have hs:=h.step (k:=k.toNat) (by omega) hq
   have ih:=atF_spec o (q++[k.toNat]) _ hs
   have el:(q++[k.toNat]).length=q.length+1:=by simp
   have ec:q++[k.toNat]++o.map Int.toNat=q++(k::o).map Int.toNat:=by simp
   rw [el,ec] at ih
   refine ⟨fun m' hm'=>?_,fun hn hO=>?_⟩
   ·
    have:=ih.1 m' hm'
    exact ⟨(okO_cons h.nod).2 ⟨⟨by omega,by omega,hq⟩,this.1⟩,this.2⟩
   · exact ih.2 hn ((okO_cons h.nod).1 hO).2
theorem permF_spec {n:Nat}:∀ (o:List Int) (q:List Nat) (m:List Bool),m.length=n→q.Nodup→(∀ k,m.getD k false=true↔k∈q)→(permF n o m=true↔okO n q o)
 | [],q,m,hl,hq,h=>by simp [permF,okO,hq]
 | k::o,q,m,hl,hq,h=>by
  rw [permF,okO_cons hq]
  split
  ·
   rename_i hc
   constructor
   · intro hf;cases hf
   ·
    rintro ⟨⟨h1,h2,h3⟩,_⟩
    rcases hc with hc | hc | hc
    · omega
    · omega
    · exact absurd ((h _).1 hc) h3
  ·
   rename_i hc
   simp only [not_or] at hc
   have hk:k.toNat∉q:=fun g=>hc.2.2 ((h _).2 g)
   have hlt:k.toNat<m.length:=by omega
   have ih:=permF_spec (n:=n) o (q++[k.toNat]) (m.set k.toNat true) (by simp [hl]) (by
    rw [List.nodup_append]
    refine ⟨hq,by simp,fun x hx y hy e=>?_⟩
    simp at hy
    subst hy e
    exact hk hx) (fun j=>by
    rw [getD_set _ _ _ _ _ hlt]
    simp only [List.mem_append,List.mem_singleton]
    by_cases hj:k.toNat=j
    · simp [hj]
    ·
     rw [if_neg hj,h]
     exact ⟨.inl,fun g=>g.resolve_right (fun e=>hj e.symm)⟩)
   rw [ih]
   exact ⟨fun g=>⟨⟨by omega,by omega,hk⟩,g⟩,fun g=>g.2⟩
def qc6 (fs:List Foot) (i j:Nat):Bool:=match fs[i]?,fs[j]? with | some a,some b=>qcx a b | _,_=>false
def earlyP (fs:List Foot) (order:List Int):Nat :=
 match atF fs.length order 0 (List.replicate fs.length (-1)) with
 | none=>0
 | some m=>if order.length≠fs.length then 0 else earlyUp m (qc6 fs) fs.length
def permR (order:List Int) (n:Nat):Bool:=decide (order.length=n)&&permF n order (List.replicate n false)
def earlyR (fs:List Foot) (order:List Int):Nat:=if permR order fs.length=true then earlyLo (order.map Int.toNat) (qc6 fs) fs.length fs.length else 0
theorem perm_iff (order:List Int) (n:Nat):permR order n=true↔order.length=n∧okO n [] order:=by
 unfold permR
 rw [Bool.and_eq_true,decide_eq_true_eq,permF_spec order [] _ (by simp) (by simp) (fun k=>by
  simp only [List.getD_eq_getElem?_getD,List.getElem?_replicate]
  split<;>simp)]
theorem perm_ord {order:List Int} {n:Nat} (h:permR order n=true):∃ m,atF n order 0 (List.replicate n (-1))=some m∧Ord n (order.map Int.toNat) m∧∀ k∈order,0≤k:=by
 obtain ⟨hl,hO⟩:=(perm_iff _ _).1 h
 have hs:=atF_spec order [] _ (Pl.nil n)
 rcases ha:atF n order 0 (List.replicate n (-1)) with _ | m
 · exact absurd hO (hs.2 ha)
 ·
  obtain ⟨_,hp⟩:=hs.1 m ha
  simp only [List.nil_append] at hp
  exact ⟨m,rfl,⟨by simp [hl],hp.la,hp.lt,hp.nod,fun a h=>hp.ok a h⟩,fun k hk=>(hO.1 k hk).1⟩
theorem early_same (fs:List Foot) (order:List Int):earlyP fs order=earlyR fs order:=by
 unfold earlyP earlyR
 by_cases hp:permR order fs.length=true
 ·
  obtain ⟨m,h1,h2,h3⟩:=perm_ord hp
  rw [h1,if_pos hp]
  simp only
  rw [if_neg (by simpa using ((perm_iff _ _).1 hp).1),early_eq h2]
 ·
  rw [if_neg hp]
  have hs:=atF_spec order [] _ (Pl.nil fs.length)
  rcases ha:atF fs.length order 0 (List.replicate fs.length (-1)) with _ | m
  · rfl
  ·
   simp only
   have:=(hs.1 m ha).1
   rw [if_pos (fun e=>hp ((perm_iff _ _).2 ⟨e,this⟩))]
theorem meetS_comm (a b:List qag):meetS a b=meetS b a:=by
 have h:∀ a b:List qag,meetS a b=true→meetS b a=true:=fun a b h=>by
  unfold meetS at h ⊢
  simp only [List.any_eq_true,hasK_iff] at h ⊢
  obtain ⟨k,h1,h2⟩:=h
  exact ⟨k,h2,h1⟩
 rcases h1:meetS a b with _ | _<;>rcases h2:meetS b a with _ | _
 · rfl
 · exact absurd (h _ _ h2) (by simp [h1])
 · exact absurd (h _ _ h1) (by simp [h2])
 · rfl
theorem conflS_comm (a b:Foot):qcx a b=qcx b a:=by
 unfold qcx
 by_cases h:qbw a.all a.reads a.writes=false∨qbw b.all b.reads b.writes=false∨a.all=true∨b.all=true
 · rw [if_pos h,if_pos (by rcases h with h | h | h | h<;>simp [h])]
 · rw [if_neg h,if_neg (fun g=>h (by rcases g with g | g | g | g<;>simp [g])),meetS_comm a.writes b.writes,meetS_comm a.writes b.reads,meetS_comm a.reads b.writes,Bool.or_comm (meetS b.reads a.writes)]
theorem legal_iff {fs:List Foot} {order:List Int} (hp:permR order fs.length=true):earlyP fs order=0↔∀ a b,a<b→b<order.length→(order.getD a 0<order.getD b 0∨qc6 fs (order.getD a 0).toNat (order.getD b 0).toNat=false):=by
 obtain ⟨m,h1,h2,h3⟩:=perm_ord hp
 have hl:=((perm_iff _ _).1 hp).1
 rw [early_same]
 unfold earlyR
 rw [if_pos hp,early_zero,hl]
 have hg:∀ a,(order.map Int.toNat).getD a 0=(order.getD a 0).toNat:=fun a=>by
  simp only [List.getD_eq_getElem?_getD,List.getElem?_map]
  rcases order[a]? with _ | x<;>simp
 have hc:∀ i j,qc6 fs i j=qc6 fs j i:=fun i j=>by
  unfold qc6
  rcases fs[i]? with _ | x<;>rcases fs[j]? with _ | y<;>simp [conflS_comm]
 have hne:∀ a b,a<b→b<fs.length→(order.getD a 0).toNat≠(order.getD b 0).toNat∧0≤order.getD a 0∧0≤order.getD b 0:=fun a b hab hb=>by
  have ha':a<order.length:=by omega
  have hb':b<order.length:=by omega
  have e1:order.getD a 0=order[a]:=by rw [List.getD_eq_getElem?_getD,List.getElem?_eq_getElem ha'];rfl
  have e2:order.getD b 0=order[b]:=by rw [List.getD_eq_getElem?_getD,List.getElem?_eq_getElem hb'];rfl
  rw [e1,e2]
  refine ⟨fun e=>?_,h3 _ (List.getElem_mem ha'),h3 _ (List.getElem_mem hb')⟩
  have:(order.map Int.toNat)[a]'(by simpa using ha')=(order.map Int.toNat)[b]'(by simpa using hb'):=by simpa using e
  have:=(List.getElem_inj h2.nod).1 this
  omega
 constructor
 ·
  intro h a b hab hb
  have hn:=h a b hab hb
  rw [hg,hg] at hn
  obtain ⟨n1,n2,n3⟩:=hne a b hab hb
  by_cases hlt:order.getD a 0<order.getD b 0
  · exact .inl hlt
  ·
   right
   rw [hc]
   rcases hx:qc6 fs (order.getD b 0).toNat (order.getD a 0).toNat with _ | _
   · rfl
   · exact absurd ⟨by omega,hx⟩ hn
 ·
  rintro h a b hab hb ⟨g1,g2⟩
  rw [hg,hg] at g1 g2
  obtain ⟨n1,n2,n3⟩:=hne a b hab hb
  rcases h a b hab hb with h | h
  · omega
  ·
   rw [hc] at h
   rw [h] at g2
   cases g2
end Go.Cw
