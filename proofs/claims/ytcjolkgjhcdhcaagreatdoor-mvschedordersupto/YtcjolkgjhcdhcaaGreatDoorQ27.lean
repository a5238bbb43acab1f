/- Part 27 of a proof: CwNr, CwMu, CwW, CwNs, CwZ, CwSa, CwSb, CwSc, CwVa, CwVb, CwVc, CwVd, CwVe, CwVf, CwUb, CwUc -/
import Derived.Lib.ItoaLen
import Derived.Test.YtcjolkgjhcdhcaaGreatDoorQ25
import Derived.Test.YtcjolkgjhcdhcaaGreatDoorQ26
set_option linter.all false

namespace Go.Cw
open Go Go.Abs
def nR (k:Nat):List AV:=[I (k:Int)]
def lR (l:List Nat):List AV:=[.slice (l.map nR)]
def depM (fs:List Foot) (j m:Nat):List Nat:=(List.range m).filter fun i=>match fs[i]?,fs[j]? with | some g,some f=>depS (qc8 g) (qc8 f) | _,_=>false
def qba (fs:List Foot) (n:Nat):List (List Nat):=(List.range n).map fun j=>depM fs j j
theorem depsAll_len (fs:List Foot) (n:Nat):(qba fs n).length=n:=by simp [qba]
theorem depsAll_succ (fs:List Foot) (n:Nat):qba fs (n+1)=qba fs n++[depM fs n n]:=by simp [qba,List.range_succ]
theorem depM_succ {fs:List Foot} {j m:Nat} (hj:j<fs.length) (hm:m<fs.length):depM fs j (m+1)=if depS (qc8 fs[m]) (qc8 fs[j])=true then depM fs j m++[m] else depM fs j m:=by
 unfold depM
 rw [List.range_succ,List.filter_append]
 by_cases h:depS (qc8 fs[m]) (qc8 fs[j])=true<;>simp [hj,hm,h]
theorem depM_len (fs:List Foot) (j m:Nat):(depM fs j m).length≤m:=by
 unfold depM
 have:=List.length_filter_le (fun i=>match fs[i]?,fs[j]? with | some g,some f=>depS (qc8 g) (qc8 f) | _,_=>false) (List.range m)
 simpa using this
theorem depM_eq {fs:List Foot} {j:Nat} (hj:j<fs.length):depM fs j j=depsL fs j:=by
 unfold depM depsL depsOf
 rw [List.getElem?_eq_getElem hj]
 refine List.filter_congr fun i _=>?_
 rcases fs[i]? with _ | x<;>rfl
theorem depM_lt {fs:List Foot} {j m i:Nat} (h:i∈depM fs j m):i<m:=by
 unfold depM at h
 exact List.mem_range.1 (List.mem_filter.1 h).1
theorem anyL_any {α:Type} (p:α→Bool):∀ l:List α,anyL p l=l.any p
 | []=>rfl
 | x::l=>by simp [anyL,anyL_any p l]
def candM (fs:List Foot) (done:List Bool) (m:Nat):List Nat:=(List.range m).filter (readyS fs done)
theorem candM_succ (fs:List Foot) (done:List Bool) (m:Nat):candM fs done (m+1)=if readyS fs done m=true then candM fs done m++[m] else candM fs done m:=by
 unfold candM
 rw [List.range_succ,List.filter_append]
 by_cases h:readyS fs done m=true<;>simp [h]
theorem candM_len (fs:List Foot) (done:List Bool) (m:Nat):(candM fs done m).length≤m:=by
 unfold candM
 have:=List.length_filter_le (readyS fs done) (List.range m)
 simpa using this
theorem candM_eq (fs:List Foot) (done:List Bool):candM fs done fs.length=candS fs done:=rfl
end Go.Cw

namespace Go.Cw
open Go Go.Abs
section
variable {fmt:Int→qag} {procs:List Proc} {s:List Pr} {l:List Txn} {effs:List Eff} {done:List Bool}
theorem vis_rng (hB:BatchIn fmt procs l) (hs:rngL s) (hI:MvIn fmt procs s l effs done):∀ i,i≤l.length→rngL (visS effs done s i)∧(visS effs done s i).length≤s.length+64 * i
 | 0,_=>⟨hs,by simp [visS]⟩
 | i+1,hi=>by
  obtain ⟨h1,h2⟩:=vis_rng hB hs hI i (by omega)
  rw [visS]
  rcases hd:done.getD i false with _ | _
  ·
   rw [if_neg (by simp)]
   exact ⟨h1,by omega⟩
  ·
   rw [if_pos rfl,hI.ok i (by omega) hd]
   simp only
   have hO:=ser_one hB hs (show i<l.length by omega)
   refine ⟨applyE_rng h1 hO.wrng,?_⟩
   have h3:=applyE_len (visS effs done s i) (serEf fmt procs s l i l[i])
   have h4:(serEf fmt procs s l i l[i]).writes.length≤64:=hO.wrs
   omega
theorem vis_wr (hB:BatchIn fmt procs l) (hs:rngL s) (hI:MvIn fmt procs s l effs done) {i:Nat} (hi:i<l.length) (hd:done.getD i false=true) (h:i<effs.length):effs[i].writes.length≤64:=by
 have h1:=hI.ok i hi hd
 rw [List.getElem?_eq_getElem h] at h1
 rw [Option.some.inj h1]
 exact (ser_one hB hs hi).wrs
theorem choice_iff {choices:List Int} {step n:Nat}:choiceS choices step n=if h:step<choices.length then (if choices[step]<0 then 0 else choices[step].toNat % n) else 0:=by
 unfold choiceS
 by_cases h:step<choices.length
 · rw [dif_pos h,List.getElem?_eq_getElem h]
 · rw [dif_neg h,List.getElem?_eq_none (by omega)]
end
end Go.Cw

namespace Go.Cw
open Go Go.Abs
def bRow (b:Bool):List AV:=[.val (.bool b)]
section
variable {fmt:Int→qag}
theorem round_next {procs:List Proc} {s:List Pr} {l:List Txn} {n:Nat} (h:n<l.length):qbe fmt procs s (l.take (n+1))=((oneS fmt procs (qbe fmt procs s (l.take n)).1 l[n]).1,(qbe fmt procs s (l.take n)).2++[(oneS fmt procs (qbe fmt procs s (l.take n)).1 l[n]).2]):=by
 rw [List.take_succ_eq_append_getElem h,round_snoc]
theorem runIn_one {procs:List Proc} {l:List Txn} {s:List Pr} (hB:BatchIn fmt procs l) (hs:rngL s) {t:Txn} (ht:t∈l):∀ p,findP procs t=some p→RunIn fmt p t.args s:=fun p hp=>⟨hB.fmt,hB.body p (findP_mem hp).1,hB.args t ht,hs⟩
theorem round_stepState {procs:List Proc} {s:List Pr} {l:List Txn} (hs:rngL s) (hB:BatchIn fmt procs l) (n:Nat) (h:n≤l.length):rngL (qbe fmt procs s (l.take n)).1∧(qbe fmt procs s (l.take n)).1.length≤s.length+64 * n∧(qbe fmt procs s (l.take n)).2.length=n:=by
 have h2:=round_ok hs (l.take n) (hB.take n)
 have h3:=h2.len
 have h4:=h2.cnt
 rw [List.length_take,Nat.min_eq_left h] at h3 h4
 exact ⟨h2.rng,h3,h4⟩
end
end Go.Cw

namespace Go.Cw
open Go Go.Abs
def mN (L n:Nat):List Int:=List.replicate n (-1)++List.replicate (L - n) 0
theorem mN_len {L n:Nat} (h:n≤L):(mN L n).length=L:=by simp [mN];omega
theorem mN_0 (L:Nat):mN L 0=List.replicate L 0:=by simp [mN]
theorem mN_end (L:Nat):mN L L=List.replicate L (-1):=by simp [mN]
theorem mN_set {L n:Nat} (h:n<L):(mN L n).set n (-1)=mN L (n+1):=by
 unfold mN
 obtain ⟨k,hk⟩:∃ k,L - n=k+1:=⟨L - n - 1,by omega⟩
 rw [hk,show L - (n+1)=k by omega,List.replicate_succ,List.replicate_succ']
 simp [List.set_append]
theorem filter1 {α:Type} (p:α→Bool) (x:α):([x].filter p).length=if p x=true then 1 else 0:=by
 by_cases h:p x=true<;>simp [h]
def cI (m:List Int) (C:Nat→Nat→Bool) (j i:Nat):Nat:=((List.range i).filter fun i=>decide (m.getD j (-1)<m.getD i (-1))&&C i j).length
theorem cI_0 (m:List Int) (C:Nat→Nat→Bool) (j:Nat):cI m C j 0=0:=by simp [cI]
theorem cI_succ (m:List Int) (C:Nat→Nat→Bool) (j i:Nat):cI m C j (i+1)=cI m C j i+if (decide (m.getD j (-1)<m.getD i (-1))&&C i j)=true then 1 else 0:=by
 unfold cI
 rw [List.range_succ,List.filter_append,List.length_append,filter1]
theorem cI_le (m:List Int) (C:Nat→Nat→Bool) (j i:Nat):cI m C j i≤i:=by
 unfold cI
 have:=List.length_filter_le (fun i=>decide (m.getD j (-1)<m.getD i (-1))&&C i j) (List.range i)
 simpa using this
theorem earlyUp_0 (m:List Int) (C:Nat→Nat→Bool):earlyUp m C 0=0:=by simp [earlyUp,upP]
theorem earlyUp_succ (m:List Int) (C:Nat→Nat→Bool) (j:Nat):earlyUp m C (j+1)=earlyUp m C j+cI m C j j:=by
 unfold earlyUp cI
 rw [upP_succ,List.filter_append,List.length_append,List.filter_map,List.length_map]
 rfl
theorem earlyUp_le (m:List Int) (C:Nat→Nat→Bool) (L:Nat):∀ j,j≤L→earlyUp m C j≤j * L
 | 0,_=>by simp [earlyUp_0]
 | j+1,h=>by
  have:=earlyUp_le m C L j (by omega)
  have:=cI_le m C j j
  rw [earlyUp_succ,Nat.succ_mul]
  omega
def cL (o:List Int) (C:Nat→Nat→Bool) (a k:Nat):Nat:=((List.range' (a+1) k).filter fun b=>decide (o.getD b 0<o.getD a 0)&&C (o.getD b 0).toNat (o.getD a 0).toNat).length
theorem cL_0 (o:List Int) (C:Nat→Nat→Bool) (a:Nat):cL o C a 0=0:=by simp [cL]
theorem cL_succ (o:List Int) (C:Nat→Nat→Bool) (a k:Nat):cL o C a (k+1)=cL o C a k+if (decide (o.getD (a+1+k) 0<o.getD a 0)&&C (o.getD (a+1+k) 0).toNat (o.getD a 0).toNat)=true then 1 else 0:=by
 unfold cL
 rw [List.range'_1_concat,List.filter_append,List.length_append,filter1]
theorem cL_le (o:List Int) (C:Nat→Nat→Bool) (a k:Nat):cL o C a k≤k:=by
 unfold cL
 have:=List.length_filter_le (fun b=>decide (o.getD b 0<o.getD a 0)&&C (o.getD b 0).toNat (o.getD a 0).toNat) (List.range' (a+1) k)
 simpa using this
theorem getD_toNat (o:List Int) (a:Nat):(o.map Int.toNat).getD a 0=(o.getD a 0).toNat:=by
 simp only [List.getD_eq_getElem?_getD,List.getElem?_map]
 rcases o[a]? with _ | x<;>simp
theorem earlyLo_0 (o:List Nat) (C:Nat→Nat→Bool) (n:Nat):earlyLo o C n 0=0:=by simp [earlyLo,loP]
theorem earlyLo_succ {o:List Int} {C:Nat→Nat→Bool} {n a:Nat} (ho:∀ k∈o,0≤k):earlyLo (o.map Int.toNat) C n (a+1)=earlyLo (o.map Int.toNat) C n a+cL o C a (n - (a+1)):=by
 unfold earlyLo cL
 rw [loP_succ,List.filter_append,List.length_append,List.filter_map,List.length_map]
 congr 2
 refine List.filter_congr fun b _=>?_
 simp only [Function.comp,getD_toNat]
 have hg:∀ a,0≤o.getD a 0:=fun a=>by
  rw [List.getD_eq_getElem?_getD]
  rcases h:o[a]? with _ | x
  · simp
  · exact ho _ (List.mem_of_getElem? h)
 have h1:=hg a
 have h2:=hg b
 congr 1
 exact decide_eq_decide.2 (by omega)
theorem earlyLo_le (o:List Int) (C:Nat→Nat→Bool) (L:Nat) (ho:∀ k∈o,0≤k):∀ j,j≤L→earlyLo (o.map Int.toNat) C L j≤j * L
 | 0,_=>by simp [earlyLo_0]
 | j+1,h=>by
  have:=earlyLo_le o C L ho j (by omega)
  have:=cL_le o C j (L - (j+1))
  rw [earlyLo_succ ho,Nat.succ_mul]
  omega
def feetL (l:List Txn):List Foot:=l.map (·.ft)
theorem qdg (l:List Txn):(feetL l).length=l.length:=by simp [feetL]
def feetR (l:List Txn):List (List AV):=(feetL l).map Foot.c
theorem feetR_take {l:List Txn} {n:Nat} (h:n<l.length):(feetR l).take (n+1)=(feetR l).take n++[l[n].ft.c]:=by
 unfold feetR feetL
 rw [List.take_succ_eq_append_getElem (by simpa using h)]
 simp
theorem feetR_tlen {l:List Txn} {n:Nat} (h:n≤l.length):((feetR l).take n).length=n:=by simp [feetR,feetL];omega
theorem feetR_all (l:List Txn):(feetR l).take l.length=(feetL l).map Foot.c:=by
 unfold feetR
 rw [List.take_of_length_le (by simp [feetL])]
end Go.Cw

namespace Go.Cw
open Go Go.Abs
section
variable {C:Cfg}
section
variable (hV:vC C) (hC:rngC C)
include hV hC
end
end
end Go.Cw

namespace Go.Cw
open Go Go.Abs
abbrev Vis:=List (qag×Int)
def subV (a b:Vis):Prop:=∀ k ty,qci a k=some ty→qci b k=some ty
theorem subV.refl (a:Vis):subV a a:=fun _ _ h=>h
theorem subV.trans {a b c:Vis} (h:subV a b) (g:subV b c):subV a c:=fun k ty e=>g k ty (h k ty e)
def qb2 {α:Type} (l:List (qag×α)):List qag:=l.map (·.1)
theorem qcw {α:Type}:∀ {l:List (qag×α)} {k:qag},qci l k=none↔k∉qb2 l
 | [],k=>by simp [qci,qb2]
 | p::l,k=>by
  have ih:=qcw (l:=l) (k:=k)
  simp only [qci,qb2,List.map_cons,List.mem_cons,not_or] at ih ⊢
  by_cases h:p.1=k
  · simp [h]
  ·
   rw [if_neg h,ih]
   exact ⟨fun g=>⟨fun e=>h e.symm,g⟩,fun g=>g.2⟩
theorem qb8 {α:Type}:∀ (l:List (qag×α)) (k:qag) (v:α) (x:qag),x∈qb2 (qcv l k v)↔x=k∨x∈qb2 l
 | [],k,v,x=>by simp [qcv,qb2]
 | p::l,k,v,x=>by
  have ih:=qb8 l k v x
  rw [qcv]
  split
  ·
   rename_i h
   subst h
   simp [qb2]
  ·
   simp only [qb2,List.map_cons,List.mem_cons] at ih ⊢
   rw [ih]
   constructor
   · rintro (h | h | h)<;>simp [h]
   · rintro (h | h | h)<;>simp [h]
theorem nodV_set {α:Type}:∀ (l:List (qag×α)) (k:qag) (v:α),(qb2 l).Nodup→(qb2 (qcv l k v)).Nodup
 | [],k,v,_=>by simp [qcv,qb2]
 | p::l,k,v,h=>by
  have h':p.1∉qb2 l∧(qb2 l).Nodup:=List.nodup_cons.1 h
  rw [qcv]
  split
  ·
   rename_i e
   subst e
   exact h
  ·
   rename_i e
   refine List.nodup_cons.2 ⟨fun hm=>?_,nodV_set l k v h'.2⟩
   rcases (qb8 l k v _).1 hm with e' | hm
   · exact e e'
   · exact h'.1 hm
theorem kDel_sub {α:Type}:∀ (l:List (qag×α)) (k:qag),(kDel l k).Sublist l
 | [],_=>by simp [kDel]
 | p::l,k=>by
  rw [kDel]
  split
  · exact List.sublist_cons_self _ _
  · exact (kDel_sub l k).cons₂ _
theorem kGet_of_mem {α:Type}:∀ {l:List (qag×α)} {k:qag} {v:α},(qb2 l).Nodup→(k,v)∈l→qci l k=some v
 | p::l,k,v,hd,h=>by
  have hd':p.1∉qb2 l∧(qb2 l).Nodup:=List.nodup_cons.1 hd
  rw [qci]
  rcases List.mem_cons.1 h with rfl | h
  · simp
  ·
   rw [if_neg]
   · exact kGet_of_mem hd'.2 h
   ·
    intro e
    exact hd'.1 (List.mem_map.2 ⟨(k,v),h,e.symm⟩)
structure TOk (ts:TS):Prop where
 nod:(qb2 ts.visible).Nodup
 sub:subV ts.visible ts.all
theorem TOk.del {ts:TS} (h:TOk ts) (k:qag):TOk ⟨kDel ts.visible k,ts.loops,ts.all⟩:=⟨h.nod.sublist ((kDel_sub _ _).map _),fun x ty e=>h.sub x ty (by
 have:=(kDel_sub ts.visible k).subset (kGet_mem e)
 exact kGet_of_mem h.nod this)⟩
theorem TOk.dels (b:List (qag×Bool)) (a:Vis):∀ (l:List St) {vis:Vis},TOk ⟨vis,b,a⟩→TOk ⟨delLets l vis,b,a⟩
 | [],vis,h=>h
 | t::l,vis,h=>by
  rw [delLets]
  refine TOk.dels b a l ?_
  split
  · exact h.del t.name
  · exact h
theorem TOk.set {ts:TS} (h:TOk ts) (k:qag) (ty:Int) (lp:List (qag×Bool)):TOk ⟨qcv ts.visible k ty,lp,qcv ts.all k ty⟩:=⟨nodV_set _ _ _ h.nod,fun x u e=>by
 simp only at e ⊢
 rw [qdf] at e ⊢
 split at e
 · rename_i hk;rw [if_pos hk];exact e
 · rename_i hk;rw [if_neg hk];exact h.sub x u e⟩
mutual
def nmS:St→List qag
 | .mk op name _ _ _ body els=>(if op=1∨op=6 then [name] else [])++(nmL body++nmL els)
def nmL:List St→List qag
 | []=>[]
 | t::l=>nmS t++nmL l
end
theorem nmS_eq (t:St):nmS t=(if t.op=1∨t.op=6 then [t.name] else [])++(nmL t.body++nmL t.els):=by cases t;rw [nmS];rfl
structure TGo (ns:List qag) (ts ts':TS):Prop where
 ok:TOk ts'
 mono:subV ts.all ts'.all
 keys:∀ k,k∈qb2 ts'.all→k∈qb2 ts.all∨k∈ns
theorem TGo.refl {ts:TS} (h:TOk ts) (ns:List qag):TGo ns ts ts:=⟨h,.refl _,fun _ h=>.inl h⟩
theorem TGo.mono' {ns ns':List qag} {ts ts':TS} (h:TGo ns ts ts') (hn:∀ k∈ns,k∈ns'):TGo ns' ts ts':=⟨h.ok,h.mono,fun k hk=>(h.keys k hk).imp id (hn k)⟩
theorem TGo.trans {a b:List qag} {s t u:TS} (h:TGo a s t) (g:TGo b t u):TGo (a++b) s u:=⟨g.ok,h.mono.trans g.mono,fun k hk=>by
 rcases g.keys k hk with hk | hk
 ·
  rcases h.keys k hk with hk | hk
  · exact .inl hk
  · exact .inr (by simp [hk])
 · exact .inr (by simp [hk])⟩
def fresh (ns:List qag) (ts:TS):Prop:=ns.Nodup∧∀ k∈ns,k∉qb2 ts.all
theorem TGo.set {ts:TS} (h:TOk ts) {k:qag} (hk:k∉qb2 ts.all) (ty:Int) (lp:List (qag×Bool)):TGo [k] ts ⟨qcv ts.visible k ty,lp,qcv ts.all k ty⟩:=⟨h.set k ty lp,fun x u e=>by
 simp only
 rw [qdf]
 split
 ·
  rename_i hx
  subst hx
  rw [qcw.2 hk] at e;cases e
 · exact e,fun x hx=>by
 rcases (qb8 _ _ _ _).1 hx with h | h
 · exact .inr (by simp [h])
 · exact .inl h⟩
theorem fresh.left {a b:List qag} {ts:TS} (h:fresh (a++b) ts):fresh a ts:=⟨(List.nodup_append.1 h.1).1,fun k hk=>h.2 k (by simp [hk])⟩
theorem fresh.right {a b:List qag} {ts ts':TS} (h:fresh (a++b) ts) (g:TGo a ts ts'):fresh b ts':=⟨(List.nodup_append.1 h.1).2.1,fun k hk hm=>by
 rcases g.keys k hm with hm | hm
 · exact h.2 k (by simp [hk]) hm
 · exact (List.nodup_append.1 h.1).2.2 k hm k hk rfl⟩
theorem TGo.blk {ns:List qag} {l:List St} {f:TS→Int×TS} {ts:TS} (hf:(f ts).1=0→TGo ns ts (f ts).2) (h0:(blkOf l f ts).1=0):TGo ns ts (blkOf l f ts).2:=by
 unfold blkOf at h0 ⊢
 split at h0
 · rename_i h;exact (h h0).elim
 ·
  rename_i h
  rw [if_neg h]
  have g:=hf (by simpa using h)
  exact ⟨TOk.dels _ _ l (vis:=(f ts).2.visible) g.ok,g.mono,g.keys⟩
theorem go_step (t:St) (B E:TS→Int×TS) (ts:TS) (h:TOk ts) (hf:fresh (nmS t) ts)
  (hB:∀ ts,TOk ts→fresh (nmL t.body) ts→(B ts).1=0→TGo (nmL t.body) ts (B ts).2)
  (hE:∀ ts,TOk ts→fresh (nmL t.els) ts→(E ts).1=0→TGo (nmL t.els) ts (E ts).2)
  (h0:(stStep t B E ts).1=0):TGo (nmS t) ts (stStep t B E ts).2:=by
 rw [nmS_eq] at hf ⊢
 unfold stStep at h0 ⊢
 by_cases he:(opsT ts.visible t).2.2≠0
 · rw [if_pos he] at h0;exact (he h0).elim
 rw [if_neg he] at h0 ⊢
 by_cases h1:t.op=1
 ·
  rw [if_pos h1] at h0 ⊢
  rw [if_pos (.inl h1)] at hf ⊢
  exact (TGo.set h (hf.2 t.name (by simp)) _ _).mono' (fun k hk=>by simp at hk;simp [hk])
 rw [if_neg h1] at h0 ⊢
 by_cases h2:t.op=2
 ·
  rw [if_pos h2]
  rcases qci ts.visible t.name with _ | ty
  · exact .refl h _
  · exact .refl h _
 rw [if_neg h2] at h0 ⊢
 by_cases h3:t.op=3
 · rw [if_pos h3];exact .refl h _
 rw [if_neg h3] at h0 ⊢
 by_cases h4:t.op=4
 · rw [if_pos h4];exact .refl h _
 rw [if_neg h4] at h0 ⊢
 by_cases h7:t.op=7
 · rw [if_pos h7];exact .refl h _
 rw [if_neg h7] at h0 ⊢
 by_cases h5:t.op=5
 ·
  rw [if_pos h5] at h0 ⊢
  by_cases h6:(opsT ts.visible t).1≠3
  · rw [if_pos h6] at h0;simp at h0
  rw [if_neg h6] at h0 ⊢
  by_cases h8:(blkOf t.body B ts).1≠0
  · rw [if_pos h8] at h0;exact (h8 h0).elim
  rw [if_neg h8] at h0 ⊢
  rw [if_neg (by omega),List.nil_append] at hf ⊢
  have g1:=TGo.blk (l:=t.body) (fun g=>hB ts h hf.left g) (by simpa using h8)
  have g2:=TGo.blk (l:=t.els) (fun g=>hE _ g1.ok (hf.right g1) g) h0
  exact g1.trans g2
 rw [if_neg h5] at h0 ⊢
 by_cases h6:t.op=6
 ·
  rw [if_pos h6] at h0 ⊢
  by_cases h8:(opsT ts.visible t).1≠1∨(opsT ts.visible t).2.1≠1
  · rw [if_pos h8] at h0;simp at h0
  rw [if_neg h8] at h0 ⊢
  rw [if_pos (.inr h6)] at hf ⊢
  have g0:=TGo.set h (hf.2 t.name (by simp)) 1 (qcv ts.loops t.name true)
  have g1:=TGo.blk (l:=t.body) (fun g=>hB _ g0.ok (hf.right g0).left g) h0
  have g2:=g0.trans g1
  exact ⟨g1.ok.del t.name,g2.mono,fun k hk=>by
   rcases g2.keys k hk with hk | hk
   · exact .inl hk
   ·
    refine .inr ?_
    simp only [List.mem_append] at hk ⊢
    rcases hk with hk | hk
    · exact .inl hk
    · exact .inr (.inl hk)⟩
 ·
  rw [if_neg h6]
  exact .refl h _
mutual
theorem go_st:∀ (t:St) (ts:TS),TOk ts→fresh (nmS t) ts→(stT t ts).1=0→TGo (nmS t) ts (stT t ts).2
 | .mk op name mx a b body els,ts,h,hf,h0=>by
  rw [stT_eq] at h0 ⊢
  exact go_step (.mk op name mx a b body els) _ _ ts h hf (fun ts=>go_seq body ts) (fun ts=>go_seq els ts) h0
theorem go_seq:∀ (l:List St) (ts:TS),TOk ts→fresh (nmL l) ts→(seqT l ts).1=0→TGo (nmL l) ts (seqT l ts).2
 | [],ts,h,hf,h0=>by rw [seqT];exact .refl h _
 | t::l,ts,h,hf,h0=>by
  rw [seqT] at h0 ⊢
  rw [nmL] at hf ⊢
  split at h0
  · rename_i he;exact (he h0).elim
  rename_i he
  rw [if_neg he]
  have g1:=go_st t ts h hf.left (by simpa using he)
  exact g1.trans (go_seq l _ g1.ok (hf.right g1) h0)
end
def tyS (G:Vis) (s:MS):Prop:=∀ k v ty,qci s.vars k=some v→qci G k=some ty→v.k=ty
def qbh (op:Int):Int:=if 10≤op∧op≤15 then 3 else (qc3 op).2
section
variable {C:Cfg}
end
end Go.Cw

namespace Go.Cw
open Go Go.Abs
section
variable (C:Cfg)
end
structure Pre (G:Vis) (r p:Nat) (s:MS) (m:RM):Prop where
 inv:Inv r p s
 vm:vM s
 ty:tyS G s
 sim:Sim s m
theorem Sim.set {s:MS} {m:RM} (h:Sim s m) (k:qag) (v:V):Sim { s with vars:=qcv s.vars k v } { m with vars:=setR m.vars ⟨k,v⟩ }:=⟨fun x=>by
 simp only
 rw [qdf,(setR_map _ _ _).1,(setR_map _ _ _).2]
 by_cases hx:k=x
 · simp [hx]
 · simp [hx,h.vars x],h.own,h.keys,h.out,h.reads,h.puts,h.steps,h.st,h.code,h.miss⟩
section
variable {C:Cfg} (hV:vC C) (hC:rngC C)
include hV hC
end
end Go.Cw

namespace Go.Cw
open Go Go.Abs
theorem Pre.mono {G:Vis} {r p r' p':Nat} {s:MS} {m:RM} (h:Pre G r p s m) (h1:r'≤r) (h2:p'≤p):Pre G r' p' s m:=⟨h.inv.mono h1 h2,h.vm,h.ty,h.sim⟩
section
variable {C:Cfg} (hV:vC C) (hC:rngC C) {G:Vis}
include hV hC
end
section
variable {σ τ:Type} (fS:σ→St→Nat→σ) (fR:σ→Ex→σ) (gS:τ→St→Nat→τ) (gR:τ→Ex→τ)
end
end Go.Cw

namespace Go.Cw
open Go Go.Abs
abbrev Ex.z:Ex:=.mk 0 0 em []
abbrev St.z:St:=.mk 0 em 0 Ex.z Ex.z [] []
structure Vt where
 isS:Bool
 t:St
 d:Nat
 e:Ex
 root:Bool
def Vt.c (v:Vt):List AV:=[Bo v.isS,I v.t.op,S v.t.name,I v.t.max,I v.t.a.op,I v.t.a.n,S v.t.a.s,.slice (v.t.a.args.map Ex.c),I v.t.b.op,I v.t.b.n,S v.t.b.s,.slice (v.t.b.args.map Ex.c),.slice (v.t.body.map St.c),.slice (v.t.els.map St.c),I v.d,I v.e.op,I v.e.n,S v.e.s,.slice (v.e.args.map Ex.c),Bo v.root]
def Vt.ofS (t:St) (d:Nat):Vt:=⟨true,t,d,Ex.z,false⟩
def Vt.ofE (e:Ex) (r:Bool):Vt:=⟨false,St.z,0,e,r⟩
section
variable {σ:Type} (fS:σ→St→Nat→σ) (fR:σ→Ex→σ)
end
end Go.Cw

namespace Go.Cw
open Go Go.Abs
theorem kGet_app {α:Type}:∀ (l:List (qag×α)) (k n:qag) (v:α),qci (l++[(n,v)]) k=match qci l k with | some x=>some x | none=>if n=k then some v else none
 | [],k,n,v=>by simp [qci]
 | p::l,k,n,v=>by
  simp only [List.cons_append,qci]
  split
  · rfl
  · exact kGet_app l k n v
structure TR (ts:TS) (vars:Vis) (loops:List qag):Prop where
 vis:∀ k,qci ts.visible k=qci vars k
 lp:∀ k,k∈qb2 vars→(qci ts.loops k=some true↔k∈loops)
 lin:∀ k∈loops,k∈qb2 ts.all
 lk:∀ k v,qci ts.loops k=some v→k∈qb2 ts.all
 ty:∀ k v,qci vars k=some v→1≤v∧v≤3
theorem TR.keys {ts:TS} {vars:Vis} {loops:List qag} (h:TR ts vars loops) (hT:TOk ts) {k:qag} (hk:k∉qb2 ts.all):k∉qb2 vars:=fun hm=>by
 rcases hx:qci vars k with _ | v
 · exact qcw.1 hx hm
 ·
  rw [← h.vis] at hx
  have:=hT.sub _ _ hx
  rw [qcw.2 hk] at this;cases this
theorem keysV_app {α:Type} (l:List (qag×α)) (k:qag) (v:α) (x:qag):x∈qb2 (l++[(k,v)])↔x∈qb2 l∨x=k:=by
 simp [qb2]
theorem TR.decl {ts:TS} {vars:Vis} {loops:List qag} (h:TR ts vars loops) (hT:TOk ts) {k:qag} (hk:k∉qb2 ts.all) {ty:Int} (h1:1≤ty) (h2:ty≤3):TR (ts.decl k ty) (vars++[(k,ty)]) loops:=by
 have hv:=h.keys hT hk
 refine ⟨fun x=>?_,fun x hx=>?_,fun x hx=>(qb8 _ _ _ _).2 (.inr (h.lin x hx)),fun x v hx=>(qb8 _ _ _ _).2 (.inr (h.lk x v hx)),fun x v hx=>?_⟩
 ·
  simp only [TS.decl]
  rw [qdf,kGet_app,h.vis]
  by_cases e:k=x
  · subst e;rw [if_pos rfl,qcw.2 hv,if_pos rfl]
  · rw [if_neg e];rcases qci vars x with _ | v<;>simp [e]
 ·
  rcases (keysV_app _ _ _ _).1 hx with hx | rfl
  · exact h.lp x hx
  ·
   simp only [TS.decl]
   constructor
   · intro hl;exact (hk (h.lk _ _ hl)).elim
   · intro hl;exact (hk (h.lin _ hl)).elim
 ·
  rw [kGet_app] at hx
  rcases hg:qci vars x with _ | w
  ·
   rw [hg] at hx
   simp only at hx
   split at hx
   · cases hx;exact ⟨h1,h2⟩
   · cases hx
  · rw [hg] at hx;cases hx;exact h.ty x _ hg
theorem TR.loop {ts:TS} {vars:Vis} {loops:List qag} (h:TR ts vars loops) (hT:TOk ts) {k:qag} (hk:k∉qb2 ts.all):TR ⟨qcv ts.visible k 1,qcv ts.loops k true,qcv ts.all k 1⟩ (vars++[(k,1)]) (loops++[k]):=by
 have hd:=h.decl hT hk (ty:=1) (by decide) (by decide)
 refine ⟨hd.vis,fun x hx=>?_,fun x hx=>?_,fun x v hx=>?_,hd.ty⟩
 ·
  simp only
  rw [qdf]
  by_cases e:k=x
  · subst e;simp
  ·
   rw [if_neg e,List.mem_append,List.mem_singleton]
   rcases (keysV_app _ _ _ _).1 hx with hx | rfl
   ·
    rw [h.lp x hx]
    exact ⟨.inl,fun g=>g.elim id fun g=>(e g.symm).elim⟩
   · exact (e rfl).elim
 ·
  rw [List.mem_append,List.mem_singleton] at hx
  rcases hx with hx | rfl
  · exact (qb8 _ _ _ _).2 (.inr (h.lin x hx))
  · exact (qb8 _ _ _ _).2 (.inl rfl)
 ·
  simp only at hx
  rw [qdf] at hx
  split at hx
  · rename_i e;exact (qb8 _ _ _ _).2 (.inl e.symm)
  · exact (qb8 _ _ _ _).2 (.inr (h.lk x v hx))
def letsL:List St→List qag
 | []=>[]
 | t::l=>if t.op=1 then t.name::letsL l else letsL l
theorem letsL_nm:∀ (l:List St) (k:qag),k∈letsL l→k∈nmL l
 | [],k,h=>by cases h
 | t::l,k,h=>by
  rw [nmL,nmS_eq]
  rw [letsL] at h
  split at h
  ·
   rename_i h1
   rw [if_pos (.inl h1)]
   rcases List.mem_cons.1 h with rfl | h
   · simp
   · have:=letsL_nm l k h;simp [this]
  · have:=letsL_nm l k h;simp [this]
theorem kGet_del {α:Type}:∀ (l:List (qag×α)) (n k:qag),(qb2 l).Nodup→qci (kDel l n) k=if n=k then none else qci l k
 | [],n,k,_=>by simp [kDel,qci]
 | p::l,n,k,h=>by
  have h':p.1∉qb2 l∧(qb2 l).Nodup:=List.nodup_cons.1 h
  rw [kDel]
  by_cases e:p.1=n
  ·
   rw [if_pos e]
   by_cases e2:n=k
   · rw [if_pos e2,qcw,← e2,← e];exact h'.1
   · rw [if_neg e2,qci,if_neg (by rw [e];exact e2)]
  ·
   rw [if_neg e,qci,qci,kGet_del l n k h'.2]
   by_cases e2:n=k
   · rw [if_pos e2,if_neg (by rw [← e2];exact e),if_pos e2]
   · rw [if_neg e2,if_neg e2]
theorem delLets_get:∀ (l:List St) (vis:Vis) (k:qag),(qb2 vis).Nodup→qci (delLets l vis) k=if hasK (letsL l) k=true then none else qci vis k
 | [],vis,k,_=>by simp [delLets,letsL,hasK,anyL]
 | t::l,vis,k,h=>by
  rw [delLets,letsL]
  split
  ·
   rename_i h1
   rw [delLets_get l _ k (h.sublist ((kDel_sub _ _).map _)),kGet_del _ _ _ h]
   have hc:hasK (t.name::letsL l) k=(decide (t.name=k)||hasK (letsL l) k):=rfl
   rw [hc]
   by_cases e:hasK (letsL l) k=true
   · simp [e]
   ·
    by_cases e2:t.name=k
    · simp [e2]
    · simp [e,e2]
  · exact delLets_get l vis k h
structure SV (ns ls:List qag) (ts ts':TS):Prop where
 vis:∀ k,k∉ls→qci ts'.visible k=qci ts.visible k
 lp:∀ k,k∉ns→qci ts'.loops k=qci ts.loops k
 lk:(∀ k v,qci ts.loops k=some v→k∈qb2 ts.all)→∀ k v,qci ts'.loops k=some v→k∈qb2 ts'.all
theorem SV.refl (ns ls:List qag) (ts:TS):SV ns ls ts ts:=⟨fun _ _=>rfl,fun _ _=>rfl,id⟩
theorem SV.blk {l:List St} {f:TS→Int×TS} {ts:TS} (hT:TOk ts) (hf:fresh (nmL l) ts) (hg:TGo (nmL l) ts (f ts).2) (hs:SV (nmL l) (letsL l) ts (f ts).2) (h0:(f ts).1=0):SV (nmL l) [] ts (blkOf l f ts).2:=by
 unfold blkOf
 rw [if_neg (by simp [h0])]
 refine ⟨fun k _=>?_,hs.lp,hs.lk⟩
 simp only
 rw [delLets_get _ _ _ hg.ok.nod]
 by_cases e:hasK (letsL l) k=true
 ·
  rw [if_pos e]
  have hn:=hf.2 k (letsL_nm l k (hasK_iff.1 e))
  rcases hx:qci ts.visible k with _ | v
  · rfl
  ·
   have:=hT.sub _ _ hx
   rw [qcw.2 hn] at this;cases this
 ·
  rw [if_neg e]
  exact hs.vis k (fun g=>e (hasK_iff.2 g))
theorem blk_zero {l:List St} {f:TS→Int×TS} {ts:TS} (h:(blkOf l f ts).1=0):(f ts).1=0:=by
 unfold blkOf at h
 by_cases hb:(f ts).1≠0
 · rw [if_pos hb] at h;exact (hb h).elim
 · simpa using hb
mutual
theorem sv_st:∀ (t:St) (ts:TS),TOk ts→fresh (nmS t) ts→(stT t ts).1=0→SV (nmS t) (if t.op=1 then [t.name] else []) ts (stT t ts).2
 | .mk op name mx a b body els,ts,hT,hf,h0=>by
  obtain ⟨t,ht⟩:∃ t:St,t=.mk op name mx a b body els:=⟨_,rfl⟩
  have hbody:t.body=body:=by rw [ht];rfl
  have hels:t.els=els:=by rw [ht];rfl
  rw [← ht] at h0 hf ⊢
  rw [nmS_eq] at hf ⊢
  rw [stT_eq] at h0 ⊢
  unfold stStep at h0 ⊢
  by_cases he:(opsT ts.visible t).2.2≠0
  · rw [if_pos he] at h0;exact (he h0).elim
  rw [if_neg he] at h0 ⊢
  by_cases h1:t.op=1
  ·
   rw [if_pos h1] at h0 ⊢
   rw [if_pos h1]
   refine ⟨fun k hk=>?_,fun k hk=>rfl,fun g k v hv=>(qb8 _ _ _ _).2 (.inr (g k v hv))⟩
   simp only [TS.decl]
   rw [qdf,if_neg (fun e=>hk (by simp [e]))]
  rw [if_neg h1] at h0 ⊢
  rw [if_neg h1]
  by_cases h2:t.op=2
  ·
   rw [if_pos h2]
   rcases qci ts.visible t.name with _ | ty
   · exact .refl _ _ _
   · exact .refl _ _ _
  rw [if_neg h2] at h0 ⊢
  by_cases h3:t.op=3
  · rw [if_pos h3];exact .refl _ _ _
  rw [if_neg h3] at h0 ⊢
  by_cases h4:t.op=4
  · rw [if_pos h4];exact .refl _ _ _
  rw [if_neg h4] at h0 ⊢
  by_cases h7:t.op=7
  · rw [if_pos h7];exact .refl _ _ _
  rw [if_neg h7] at h0 ⊢
  by_cases h5:t.op=5
  ·
   rw [if_pos h5] at h0 ⊢
   by_cases h6:(opsT ts.visible t).1≠3
   · rw [if_pos h6] at h0;simp at h0
   rw [if_neg h6] at h0 ⊢
   by_cases h8:(blkOf t.body (seqT t.body) ts).1≠0
   · rw [if_pos h8] at h0;exact (h8 h0).elim
   rw [if_neg h8] at h0 ⊢
   rw [if_neg (by omega),List.nil_append] at hf ⊢
   have z1:=blk_zero (by simpa using h8)
   have z2:=blk_zero h0
   have g1:=TGo.blk (l:=t.body) (f:=seqT t.body) (fun g=>go_seq t.body ts hT hf.left g) (by simpa using h8)
   have hf2:=hf.right g1
   have s1:=SV.blk hT hf.left (go_seq t.body ts hT hf.left z1) (by rw [hbody] at hf z1 ⊢;exact sv_seq body ts hT hf.left z1) z1
   have s2:=SV.blk g1.ok hf2 (go_seq t.els _ g1.ok hf2 z2) (by rw [hels] at hf2 z2 ⊢;exact sv_seq els _ g1.ok hf2 z2) z2
   refine ⟨fun k hk=>(s2.vis k hk).trans (s1.vis k hk),fun k hk=>?_,fun g=>s2.lk (s1.lk g)⟩
   simp only [List.mem_append,not_or] at hk
   exact (s2.lp k hk.2).trans (s1.lp k hk.1)
  rw [if_neg h5] at h0 ⊢
  by_cases h6:t.op=6
  ·
   rw [if_pos h6] at h0 ⊢
   by_cases h8:(opsT ts.visible t).1≠1∨(opsT ts.visible t).2.1≠1
   · rw [if_pos h8] at h0;simp at h0
   rw [if_neg h8] at h0 ⊢
   rw [if_pos (.inr h6)] at hf ⊢
   have g0:=TGo.set hT (hf.2 t.name (by simp)) 1 (qcv ts.loops t.name true)
   have hfb:=(hf.right g0).left
   have z1:=blk_zero h0
   have g1:=go_seq t.body _ g0.ok hfb z1
   have s1:=SV.blk g0.ok hfb g1 (by rw [hbody] at hfb z1 ⊢;exact sv_seq body _ g0.ok hfb z1) z1
   have g1':=TGo.blk (l:=t.body) (f:=seqT t.body) (fun g=>go_seq t.body _ g0.ok hfb g) h0
   refine ⟨fun k _=>?_,fun k hk=>?_,fun g=>?_⟩
   ·
    simp only
    rw [kGet_del _ _ _ g1'.ok.nod]
    by_cases e:t.name=k
    ·
     rw [if_pos e]
     have hn:=hf.2 t.name (by simp)
     rcases hx:qci ts.visible k with _ | v
     · rfl
     ·
      have:=hT.sub _ _ hx
      rw [← e,qcw.2 hn] at this;cases this
    ·
     rw [if_neg e,s1.vis k (by simp)]
     simp only
     rw [qdf,if_neg e]
   ·
    simp only [List.mem_append,List.mem_singleton,not_or] at hk
    simp only
    rw [s1.lp k hk.2.1]
    simp only
    rw [qdf,if_neg (fun e=>hk.1 e.symm)]
   ·
    simp only
    refine s1.lk fun k v hv=>?_
    simp only at hv ⊢
    rw [qdf] at hv
    split at hv
    · rename_i e;exact (qb8 _ _ _ _).2 (.inl e.symm)
    · exact (qb8 _ _ _ _).2 (.inr (g k v hv))
  ·
   rw [if_neg h6]
   exact .refl _ _ _
theorem sv_seq:∀ (l:List St) (ts:TS),TOk ts→fresh (nmL l) ts→(seqT l ts).1=0→SV (nmL l) (letsL l) ts (seqT l ts).2
 | [],ts,hT,hf,h0=>by rw [seqT];exact .refl _ _ _
 | t::l,ts,hT,hf,h0=>by
  rw [seqT] at h0 ⊢
  rw [nmL] at hf ⊢
  by_cases he:(stT t ts).1≠0
  · rw [if_pos he] at h0;exact (he h0).elim
  rw [if_neg he] at h0 ⊢
  have he:(stT t ts).1=0:=by simpa using he
  have s1:=sv_st t ts hT hf.left he
  have g1:=go_st t ts hT hf.left he
  have s2:=sv_seq l _ g1.ok (hf.right g1) h0
  refine ⟨fun k hk=>?_,fun k hk=>?_,fun g=>s2.lk (s1.lk g)⟩
  ·
   rw [letsL] at hk
   by_cases h1:t.op=1
   ·
    rw [if_pos h1] at hk s1
    simp only [List.mem_cons,not_or] at hk
    exact (s2.vis k hk.2).trans (s1.vis k (by simpa using hk.1))
   ·
    rw [if_neg h1] at hk s1
    exact (s2.vis k hk).trans (s1.vis k (by simp))
  ·
   simp only [List.mem_append,not_or] at hk
   exact (s2.lp k hk.2).trans (s1.lp k hk.1)
end
theorem TR.blk {l:List St} {ts:TS} {vars:Vis} {loops:List qag} (h:TR ts vars loops) (hT:TOk ts) (hf:fresh (nmL l) ts) (h0:(seqT l ts).1=0):TR (blkOf l (seqT l) ts).2 vars loops:=by
 have g:=go_seq l ts hT hf h0
 have s:=SV.blk hT hf g (sv_seq l ts hT hf h0) h0
 have e:(blkOf l (seqT l) ts).2.all=(seqT l ts).2.all:=by unfold blkOf;rw [if_neg (by simp [h0])]
 have sub:∀ k,k∈qb2 ts.all→k∈qb2 (blkOf l (seqT l) ts).2.all:=fun k hk=>by
  rw [e]
  rcases hx:qci ts.all k with _ | v
  · exact (qcw.1 hx hk).elim
  ·
   have:=g.mono _ _ hx
   exact Classical.byContradiction fun hn=>by rw [qcw.2 hn] at this;cases this
 refine ⟨fun k=>(s.vis k (by simp)).trans (h.vis k),fun k hk=>?_,fun k hk=>sub k (h.lin k hk),s.lk h.lk,h.ty⟩
 by_cases hn:k∈nmL l
 ·
  have h1:=hf.2 k hn
  exact (h.keys hT h1 hk).elim
 · rw [s.lp k hn];exact h.lp k hk
abbrev visP (l:List Param):Vis:=l.map fun p=>(p.name,p.ty)
theorem TR.params:∀ (ps pre:List Param) (ts:TS),TOk ts→fresh (ps.map (·.name)) ts→TR ts (visP pre) []→(∀ x∈ps,1≤x.ty∧x.ty≤3)→TR (declP ps ts) (visP (pre++ps)) []
 | [],pre,ts,_,_,h,_=>by rw [List.append_nil];exact h
 | x::l,pre,ts,hT,hf,h,ht=>by
  have hd:declP (x::l) ts=declP l (ts.decl x.name x.ty):=rfl
  rw [hd]
  have hf':fresh ([x.name]++l.map (·.name)) ts:=hf
  have hn:=hf'.2 x.name (by simp)
  have g:=TGo.set hT hn x.ty ts.loops
  have hx:=ht x (by simp)
  have:=TR.params l (pre++[x]) (ts.decl x.name x.ty) g.ok (hf'.right g) (by
   have e:visP (pre++[x])=visP pre++[(x.name,x.ty)]:=by simp [visP]
   rw [e];exact h.decl hT hn hx.1 hx.2) (fun y hy=>ht y (by simp [hy]))
  rw [List.append_assoc] at this
  exact this
end Go.Cw

namespace Go.Cw
open Go Go.Abs
def n1 (t:St):N4:=⟨1,gE t.a+gE t.b,if t.op=3∨t.op=4 then 1 else 0,if t.op=7 then 1 else 0⟩
end Go.Cw

namespace Go.Cw
open Go Go.Abs
end Go.Cw

namespace Go.Cw
open Go Go.Abs
structure RInv (r p:Nat) (m:RM):Prop where
 vr:∀ q∈m.vars,rngV q.v
 wr:∀ q∈m.own,rngV q.v
 s0:0≤m.steps
 s1:m.steps≤16384
 rd:((m.reads.length+r:Nat):Int)≤8192 * m.steps+8192
 pt:((m.puts.length+p:Nat):Int)≤m.steps
 ow:((m.own.length+p:Nat):Int)≤m.steps
 va:((m.vars.length+p:Nat):Int)≤m.steps+34359738368
 ot:m.out.length≤16
theorem RInv.mono {r p r' p':Nat} {m:RM} (h:RInv r p m) (h1:r'≤r) (h2:p'≤p):RInv r' p' m :=
 ⟨h.vr,h.wr,h.s0,h.s1,by have:=h.rd;omega,by have:=h.pt;omega,by have:=h.ow;omega,by have:=h.va;omega,h.ot⟩
theorem setR_len (l:List Pr) (p:Pr):(setR l p).length≤l.length+1:=by
 have:=posP_le p.key l
 unfold setR restP
 split<;>simp<;>omega
theorem setR_mem {l:List Pr} {p q:Pr} (h:q∈setR l p):q=p∨q∈l:=by
 unfold setR at h
 simp only [List.mem_append,List.mem_cons] at h
 rcases h with h | h | h
 · exact .inr (List.mem_of_mem_take h)
 · exact .inl h
 · exact .inr (List.mem_of_mem_drop h)
section
variable {C:Cfg} (hC:rngC C)
include hC
end
theorem RInv.store {C:Cfg} {r p:Nat} {m:RM} (h:RInv r (p+1) m) {v:V} (hv:rngV v) (k:qag) (h0:(storeR C m k v).st=0):RInv r p (storeR C m k v):=by
 unfold storeR at h0 ⊢
 split at h0
 · simp [RM.ab] at h0
 rename_i h1
 rw [if_neg h1]
 split at h0
 · simp [RM.rst] at h0
 rename_i h2
 rw [if_neg h2]
 refine ⟨h.vr,fun q hq=>?_,h.s0,h.s1,h.rd,?_,?_,by have:=h.va;simp only;omega,h.ot⟩
 ·
  rcases setR_mem hq with rfl | hq
  · exact hv
  · exact h.wr q hq
 ·
  have:=withS_len m.puts k
  have:=h.pt
  simp only
  omega
 ·
  have:=setR_len m.own ⟨k,v⟩
  have:=h.ow
  simp only
  omega
theorem RInv.emit {r p:Nat} {m:RM} (h:RInv r p m) {v:V} (h0:(emitR m v).st=0):RInv r p (emitR m v):=by
 unfold emitR at h0 ⊢
 split at h0
 · simp [RM.ab] at h0
 rename_i h1
 rw [if_neg h1]
 refine ⟨h.vr,h.wr,h.s0,h.s1,h.rd,h.pt,h.ow,h.va,?_⟩
 simp only [List.length_append,List.length_singleton]
 omega
section
variable {C:Cfg} (hC:rngC C) (hf:∀ n,i64 n→qbf (C.fmt n)=true)
include hC hf
end
end Go.Cw

namespace Go.Cw
open Go Go.Abs
def evOk (e:Ex) (st:List Pr) (ft:Foot):Prop:=¬ (chkE e 1≠0∨qay st=false∨qbw ft.all ft.reads ft.writes=false)
instance (e:Ex) (st:List Pr) (ft:Foot):Decidable (evOk e st ft):=inferInstanceAs (Decidable (¬ _))
structure EvIn (fmt:Int→qag) (e:Ex) (vs st:List Pr):Prop where
 fmt:∀ n,i64 n→qbf (fmt n)=true
 ex:rngX e
 vars:∀ q∈vs,rngV q.v
 st:∀ q∈st,rngV q.v
 len:vs.length≤34359738368
end Go.Cw

namespace Go.Cw
open Go Go.Abs
section
variable {fmt:Int→qag} {p:Proc} {args:List V} {st:List Pr}
end
section
variable (fmt:Int→qag)
structure Res where
 id:Int
 att:Int
 status:Int
 code:Int
 out:List V
def Res.c (r:Res):List AV:=[I r.id,I r.att,I r.status,I r.code,.slice (r.out.map V.c)]
def Res.z:Res:=⟨0,0,0,0,[]⟩
end
section
variable {fmt:Int→qag}
end
end Go.Cw

namespace Go.Cw
open Go Go.Abs
section
variable {fmt:Int→qag}
structure Tal (L:List Txn) (l:List Txn) (is:List Nat) (out:List Res):Prop where
 len:is.length=l.length
 ol:out.length=L.length
 nod:is.Nodup
 lt:∀ i∈is,i<L.length
 id:∀ j (h:j<l.length) (h':j<is.length) (h2:is[j]<L.length),l[j].id=L[is[j]].id
 done:∀ i (h:i<L.length) (h':i<out.length),i∈is∨(out[i].id=L[i].id∧(out[i].status=1∨out[i].status=2))
end
end Go.Cw
