/- Part 27 of a proof: CwMz, CwLa, CwLb -/
import Derived.Test.YtbimdamecieomaaGreatDoorQ26
set_option linter.all false

namespace Go.Cw
open Go Go.Abs
def atF (n:Nat):List Int→Nat→List Int→Option (List Int)
 | [],_,m=>some m
 | k::o,i,m=>if k<0∨(n:Int)≤k∨0≤m.getD k.toNat (-1) then none else atF n o (i+1) (m.set k.toNat i)
def permF (n:Nat):List Int→List Bool→Bool
 | [],_=>true
 | k::o,m=>if k<0∨(n:Int)≤k∨m.getD k.toNat false=true then false else permF n o (m.set k.toNat true)
structure Pl (n:Nat) (q:List Nat) (m:List Int):Prop where
 la:m.length=n
 lt:∀ k∈q,k<n
 nod:q.Nodup
 ok:∀ a (h:a<q.length),m.getD q[a] (-1)=a
 no:∀ k,k∉q→m.getD k (-1) = -1
theorem getD_set {α:Type} (m:List α) (k j:Nat) (v d:α) (h:k<m.length):(m.set k v).getD j d=if k=j then v else m.getD j d:=by
 simp only [List.getD_eq_getElem?_getD,List.getElem?_set];split
 · simp [h]
 · rfl
theorem Pl.mem {n:Nat} {q:List Nat} {m:List Int} (h:Pl n q m) (k:Nat):0≤m.getD k (-1)↔k∈q:=by
 constructor
 ·
  intro h0;by_cases hk:k∈q
  · exact hk
  · rw [h.no k hk] at h0;omega
 ·
  intro hk;obtain ⟨a,ha,rfl⟩:=List.mem_iff_getElem.1 hk;rw [h.ok a ha];omega
theorem Pl.step {n:Nat} {q:List Nat} {m:List Int} (h:Pl n q m) {k:Nat} (hk:k<n) (hq:k∉q):Pl n (q++[k]) (m.set k q.length):=by
 have hl:k<m.length:=by rw [h.la];exact hk
 refine ⟨by simp [h.la],fun x hx=>?_,?_,fun a ha=>?_,fun x hx=>?_⟩
 ·
  rcases List.mem_append.1 hx with hx | hx
  · exact h.lt x hx
  · simp at hx;omega
 ·
  rw [List.nodup_append];refine ⟨h.nod,by simp,fun x hx y hy e=>?_⟩;simp at hy;subst hy e;exact hq hx
 ·
  rw [getD_set _ _ _ _ _ hl];by_cases h1:a<q.length
  ·
   rw [List.getElem_append_left h1,if_neg (fun e=>hq (by rw [e];exact List.getElem_mem h1))];exact h.ok a h1
  ·
   have:a=q.length:=by simp at ha;omega
   subst this;simp
 ·
  simp only [List.mem_append,List.mem_singleton,not_or] at hx;rw [getD_set _ _ _ _ _ hl,if_neg (fun e=>hx.2 e.symm)];exact h.no x hx.1
theorem Pl.nil (n:Nat):Pl n [] (List.replicate n (-1)):=⟨by simp,by simp,by simp,by simp,fun k _=>by
 simp only [List.getD_eq_getElem?_getD,List.getElem?_replicate];split<;>rfl⟩
def okO (n:Nat) (q:List Nat) (o:List Int):Prop:=(∀ k∈o,0≤k∧k<n)∧(q++o.map Int.toNat).Nodup
theorem okO_cons {n:Nat} {q:List Nat} {k:Int} {o:List Int} (hq:q.Nodup):okO n q (k::o)↔(0≤k∧k<n∧k.toNat∉q)∧okO n (q++[k.toNat]) o:=by
 unfold okO;simp only [List.mem_cons,forall_eq_or_imp,List.map_cons];have e:q++[k.toNat]++o.map Int.toNat=q++k.toNat::o.map Int.toNat:=by simp
 rw [e];constructor
 ·
  rintro ⟨⟨h1,h2⟩,h3⟩;refine ⟨⟨h1.1,h1.2,fun hm=>?_⟩,h2,h3⟩;exact (List.nodup_append.1 h3).2.2 _ hm _ (by simp) rfl
 ·
  rintro ⟨⟨h1,h2,h3⟩,h4,h5⟩;exact ⟨⟨⟨h1,h2⟩,h4⟩,h5⟩
theorem atF_spec {n:Nat}:∀ (o:List Int) (q:List Nat) (m:List Int),Pl n q m →
  (∀ m',atF n o q.length m=some m'→okO n q o∧Pl n (q++o.map Int.toNat) m')∧(atF n o q.length m=none→¬ okO n q o)
 | [],q,m,h=>by
  simp only [atF,Option.some.injEq,List.map_nil,List.append_nil,reduceCtorEq,false_implies,and_true];rintro m' rfl;exact ⟨⟨by simp,by simpa using h.nod⟩,h⟩
 | k::o,q,m,h=>by
  rw [atF];have hm:=h.mem k.toNat;split
  ·
   rename_i hc;refine ⟨by simp,fun _ hO=>?_⟩;have:=((okO_cons h.nod).1 hO).1;rcases hc with hc | hc | hc
   · omega
   · omega
   · exact this.2.2 (hm.1 hc)
  ·
   rename_i hc;simp only [not_or] at hc;have hq:k.toNat∉q:=fun g=>hc.2.2 (hm.2 g);have hs:=h.step (k:=k.toNat) (by omega) hq;have ih:=atF_spec o (q++[k.toNat]) _ hs;have el:(q++[k.toNat]).length=q.length+1:=by simp
   have ec:q++[k.toNat]++o.map Int.toNat=q++(k::o).map Int.toNat:=by simp
   rw [el,ec] at ih;refine ⟨fun m' hm'=>?_,fun hn hO=>?_⟩
   ·
    have:=ih.1 m' hm';exact ⟨(okO_cons h.nod).2 ⟨⟨by omega,by omega,hq⟩,this.1⟩,this.2⟩
   · exact ih.2 hn ((okO_cons h.nod).1 hO).2
theorem permF_spec {n:Nat}:∀ (o:List Int) (q:List Nat) (m:List Bool),m.length=n→q.Nodup→(∀ k,m.getD k false=true↔k∈q)→(permF n o m=true↔okO n q o)
 | [],q,m,hl,hq,h=>by simp [permF,okO,hq]
 | k::o,q,m,hl,hq,h=>by
  rw [permF,okO_cons hq];split
  ·
   rename_i hc;constructor
   · intro hf;cases hf
   ·
    rintro ⟨⟨h1,h2,h3⟩,_⟩;rcases hc with hc | hc | hc
    · omega
    · omega
    · exact absurd ((h _).1 hc) h3
  ·
   rename_i hc;simp only [not_or] at hc;have hk:k.toNat∉q:=fun g=>hc.2.2 ((h _).2 g);have hlt:k.toNat<m.length:=by omega
   have ih:=permF_spec (n:=n) o (q++[k.toNat]) (m.set k.toNat true) (by simp [hl]) (by
    rw [List.nodup_append];refine ⟨hq,by simp,fun x hx y hy e=>?_⟩;simp at hy;subst hy e;exact hk hx) (fun j=>by
    rw [getD_set _ _ _ _ _ hlt];simp only [List.mem_append,List.mem_singleton];by_cases hj:k.toNat=j
    · simp [hj]
    ·
     rw [if_neg hj,h];exact ⟨.inl,fun g=>g.resolve_right (fun e=>hj e.symm)⟩)
   rw [ih];exact ⟨fun g=>⟨⟨by omega,by omega,hk⟩,g⟩,fun g=>g.2⟩
def qc4 (fs:List Foot) (i j:Nat):Bool:=match fs[i]?,fs[j]? with | some a,some b=>qci a b | _,_=>false
def earlyP (fs:List Foot) (order:List Int):Nat :=
 match atF fs.length order 0 (List.replicate fs.length (-1)) with
 | none=>0
 | some m=>if order.length≠fs.length then 0 else earlyUp m (qc4 fs) fs.length
def permR (order:List Int) (n:Nat):Bool:=decide (order.length=n)&&permF n order (List.replicate n false)
def earlyR (fs:List Foot) (order:List Int):Nat:=if permR order fs.length=true then earlyLo (order.map Int.toNat) (qc4 fs) fs.length fs.length else 0
theorem perm_iff (order:List Int) (n:Nat):permR order n=true↔order.length=n∧okO n [] order:=by
 unfold permR;rw [Bool.and_eq_true,decide_eq_true_eq,permF_spec order [] _ (by simp) (by simp) (fun k=>by
  simp only [List.getD_eq_getElem?_getD,List.getElem?_replicate];split<;>simp)]
theorem perm_ord {order:List Int} {n:Nat} (h:permR order n=true):∃ m,atF n order 0 (List.replicate n (-1))=some m∧Ord n (order.map Int.toNat) m∧∀ k∈order,0≤k:=by
 obtain ⟨hl,hO⟩:=(perm_iff _ _).1 h;have hs:=atF_spec order [] _ (Pl.nil n);rcases ha:atF n order 0 (List.replicate n (-1)) with _ | m
 · exact absurd hO (hs.2 ha)
 ·
  obtain ⟨_,hp⟩:=hs.1 m ha;simp only [List.nil_append] at hp;exact ⟨m,rfl,⟨by simp [hl],hp.la,hp.lt,hp.nod,fun a h=>hp.ok a h⟩,fun k hk=>(hO.1 k hk).1⟩
theorem early_same (fs:List Foot) (order:List Int):earlyP fs order=earlyR fs order:=by
 unfold earlyP earlyR;by_cases hp:permR order fs.length=true
 ·
  obtain ⟨m,h1,h2,h3⟩:=perm_ord hp;rw [h1,if_pos hp];simp only;rw [if_neg (by simpa using ((perm_iff _ _).1 hp).1),early_eq h2]
 ·
  rw [if_neg hp];have hs:=atF_spec order [] _ (Pl.nil fs.length);rcases ha:atF fs.length order 0 (List.replicate fs.length (-1)) with _ | m
  · rfl
  ·
   simp only;have:=(hs.1 m ha).1;rw [if_pos (fun e=>hp ((perm_iff _ _).2 ⟨e,this⟩))]
theorem meetS_comm (a b:List qac):meetS a b=meetS b a:=by
 have h:∀ a b:List qac,meetS a b=true→meetS b a=true:=fun a b h=>by
  unfold meetS at h ⊢;simp only [List.any_eq_true,qb3] at h ⊢;obtain ⟨k,h1,h2⟩:=h;exact ⟨k,h2,h1⟩
 rcases h1:meetS a b with _ | _<;>rcases h2:meetS b a with _ | _
 · rfl
 · exact absurd (h _ _ h2) (by simp [h1])
 · exact absurd (h _ _ h1) (by simp [h2])
 · rfl
theorem conflS_comm (a b:Foot):qci a b=qci b a:=by
 unfold qci;by_cases h:qbi a.all a.reads a.writes=false∨qbi b.all b.reads b.writes=false∨a.all=true∨b.all=true
 · rw [if_pos h,if_pos (by rcases h with h | h | h | h<;>simp [h])]
 · rw [if_neg h,if_neg (fun g=>h (by rcases g with g | g | g | g<;>simp [g])),meetS_comm a.writes b.writes,meetS_comm a.writes b.reads,meetS_comm a.reads b.writes,Bool.or_comm (meetS b.reads a.writes)]
theorem legal_iff {fs:List Foot} {order:List Int} (hp:permR order fs.length=true):earlyP fs order=0↔∀ a b,a<b→b<order.length→(order.getD a 0<order.getD b 0∨qc4 fs (order.getD a 0).toNat (order.getD b 0).toNat=false):=by
 obtain ⟨m,h1,h2,h3⟩:=perm_ord hp;have hl:=((perm_iff _ _).1 hp).1;rw [early_same];unfold earlyR;rw [if_pos hp,early_zero,hl];have hg:∀ a,(order.map Int.toNat).getD a 0=(order.getD a 0).toNat:=fun a=>by
  simp only [List.getD_eq_getElem?_getD,List.getElem?_map];rcases order[a]? with _ | x<;>simp
 have hc:∀ i j,qc4 fs i j=qc4 fs j i:=fun i j=>by
  unfold qc4;rcases fs[i]? with _ | x<;>rcases fs[j]? with _ | y<;>simp [conflS_comm]
 have hne:∀ a b,a<b→b<fs.length→(order.getD a 0).toNat≠(order.getD b 0).toNat∧0≤order.getD a 0∧0≤order.getD b 0:=fun a b hab hb=>by
  have ha':a<order.length:=by omega
  have hb':b<order.length:=by omega
  have e1:order.getD a 0=order[a]:=by rw [List.getD_eq_getElem?_getD,List.getElem?_eq_getElem ha'];rfl
  have e2:order.getD b 0=order[b]:=by rw [List.getD_eq_getElem?_getD,List.getElem?_eq_getElem hb'];rfl
  rw [e1,e2];refine ⟨fun e=>?_,h3 _ (List.getElem_mem ha'),h3 _ (List.getElem_mem hb')⟩;have:(order.map Int.toNat)[a]'(by simpa using ha')=(order.map Int.toNat)[b]'(by simpa using hb'):=by simpa using e
  have:=(List.getElem_inj h2.nod).1 this;omega
 constructor
 ·
  intro h a b hab hb;have hn:=h a b hab hb;rw [hg,hg] at hn;obtain ⟨n1,n2,n3⟩:=hne a b hab hb;by_cases hlt:order.getD a 0<order.getD b 0
  · exact .inl hlt
  ·
   right;rw [hc];rcases hx:qc4 fs (order.getD b 0).toNat (order.getD a 0).toNat with _ | _
   · rfl
   · exact absurd ⟨by omega,hx⟩ hn
 ·
  rintro h a b hab hb ⟨g1,g2⟩;rw [hg,hg] at g1 g2;obtain ⟨n1,n2,n3⟩:=hne a b hab hb;rcases h a b hab hb with h | h
  · omega
  ·
   rw [hc] at h;rw [h] at g2;cases g2
end Go.Cw

namespace Go.Cw
open Go Go.Abs
section
variable (fmt:Int→qac)
def exN (procs:List Proc) (l:List Txn) (x:List Pr×List Eff) (i:Nat):List Pr×List Eff:=match l[i]? with
 | some t=>((oneS fmt procs x.1 t).1,x.2.set i (oneS fmt procs x.1 t).2)
 | none=>x
def exO (procs:List Proc) (s:List Pr) (l:List Txn) (o:List Nat):List Pr×List Eff:=o.foldl (exN fmt procs l) (s,List.replicate l.length zeroE)
end
inductive Leg (fs:List Foot):List Nat→Prop
 | nil:Leg fs []
 | snoc {o:List Nat} {j:Nat}:Leg fs o→j<fs.length→j∉o→(∀ i,i<j→qc4 fs i j=true→i∈o)→Leg fs (o++[j])
section
variable {fs:List Foot} {o:List Nat}
theorem Leg.cl (h:Leg fs o):∀ n∈o,∀ i,i<n→qc4 fs i n=true→i∈o:=by
 induction h with
 | nil=>intro n hn;cases hn
 | snoc h hj hno hc ih =>
  intro n hn i hi hx;simp only [List.mem_append,List.mem_singleton] at hn ⊢;rcases hn with hn | rfl
  · exact .inl (ih n hn i hi hx)
  · exact .inl (hc i hi hx)
theorem Leg.lt (h:Leg fs o):∀ n∈o,n<fs.length:=by
 induction h with
 | nil=>intro n hn;cases hn
 | snoc h hj hno hc ih =>
  intro n hn;simp only [List.mem_append,List.mem_singleton] at hn;rcases hn with hn | rfl
  · exact ih n hn
  · exact hj
theorem Leg.nod (h:Leg fs o):o.Nodup:=by
 induction h with
 | nil=>exact List.nodup_nil
 | snoc h hj hno hc ih=>exact List.nodup_append.2 ⟨ih,by simp,fun a ha b hb=>by simp at hb;subst hb;rintro rfl;exact hno ha⟩
theorem Leg.at (h:Leg fs o):∀ a (ha:a<o.length) i,i<o[a]→qc4 fs i o[a]=true→i∈o.take a:=by
 induction h with
 | nil=>intro a ha;cases ha
 | @snoc o j h hj hno hc ih =>
  intro a ha i hi hx;by_cases e:a<o.length
  ·
   rw [List.getElem_append_left e] at hi hx;rw [List.take_append_of_le_length (by omega)];exact ih a e i hi hx
  ·
   have e':a=o.length:=by simp at ha;omega
   subst e';rw [List.getElem_concat_length rfl] at hi hx;rw [List.take_append_of_le_length (Nat.le_refl _),List.take_length];exact hc i hi hx
end
abbrev ftsL (l:List Txn):List Foot:=l.map (·.ft)
theorem conflN_get {l:List Txn} {i j:Nat} (hi:i<l.length) (hj:j<l.length):qc4 (ftsL l) i j=qci l[i].ft l[j].ft:=by
 simp [qc4,hi,hj]
theorem state_ext {a b:List Pr} (ha:qa3 a=true) (hb:qa3 b=true) (h:∀ k,getP a k=getP b k):a=b:=by
 obtain ⟨a1,a2,a3⟩:=(qcb a).1 ha;obtain ⟨b1,b2,b3⟩:=(qcb b).1 hb;have half:∀ {a b:List Pr},(∀ p∈a,okW p.v∧p.v.k≠0)→qb7 (qco a)→(∀ k,getP a k=getP b k)→∀ q∈a,q∈b:=fun {a b} h1 h2 h q hq=>by
  have h3:=getP_in h2 hq;have h4:getP b q.key≠V.nil:=by
   rw [← h,h3];intro e;have:=(h1 q hq).2;rw [e] at this;exact this rfl
  have h5:=getP_mem h4;rw [← h,h3] at h5;exact h5
 exact asc_ext a3 b3 fun q=>⟨half a1 a3 h q,half b1 b3 (fun k=>(h k).symm) q⟩
section
variable {fmt:Int→qac} {procs:List Proc} {s:List Pr} {l:List Txn}
theorem exO_snoc (o:List Nat) (j:Nat):exO fmt procs s l (o++[j])=exN fmt procs l (exO fmt procs s l o) j:=by
 unfold exO;rw [List.foldl_append];rfl
theorem exN_get {x:List Pr×List Eff} {j:Nat} (h:j<l.length):exN fmt procs l x j=((oneS fmt procs x.1 l[j]).1,x.2.set j (oneS fmt procs x.1 l[j]).2):=by
 unfold exN;rw [List.getElem?_eq_getElem h]
theorem one_in (hB:BatchIn fmt procs l) {j:Nat} (h:j<l.length):BatchIn fmt procs [l[j]]:=⟨hB.fmt,hB.body,fun x hx=>by simp at hx;subst hx;exact hB.args _ (List.getElem_mem h)⟩
theorem confl_of {a b:Foot} {k:qac} (ha:qbi a.all a.reads a.writes=true) (hb:qbi b.all b.reads b.writes=true) (h1:a.all=true∨qc8 a.writes k=true) (h2:b.all=true∨qc8 b.reads k=true∨qc8 b.writes k=true):qci a b=true:=by
 unfold qci;split
 · rfl
 ·
  rename_i hc;simp only [not_or,Bool.not_eq_false,Bool.not_eq_true] at hc;have h1:qc8 a.writes k=true:=h1.resolve_left (by rw [hc.2.2.1];simp);rcases h2.resolve_left (by rw [hc.2.2.2];simp) with h2 | h2
  ·
   have:meetS a.writes b.reads=true:=List.any_eq_true.2 ⟨k,qb3.1 h1,h2⟩;simp [this]
  ·
   have:meetS a.writes b.writes=true:=List.any_eq_true.2 ⟨k,qb3.1 h1,h2⟩;simp [this]
structure ExOk (fmt:Int→qac) (procs:List Proc) (s:List Pr) (l:List Txn) (o:List Nat) (x:List Pr×List Eff):Prop where
 rng:rngL x.1
 len:x.1.length≤s.length+64 * o.length
 cnt:x.2.length=l.length
 ok:qa3 s=true→qa3 x.1=true
 no:qa3 s=false→x.1=s
 eff:∀ j (h:j<l.length),j∈o→x.2[j]?=some (serEf fmt procs s l j l[j])
 get:qa3 s=true→∀ k i,i≤l.length→(∀ n (h:n<l.length),wroteS (serEf fmt procs s l n l[n]) k=true→(n∈o↔n<i))→getP x.1 k=getP (serSt fmt procs s l i) k
theorem ser_gap (hB:BatchIn fmt procs l) (hs:rngL s) (h0:qa3 s=true) (k:qac) (a:Nat):∀ b,a≤b→b≤l.length→(∀ n (h:n<l.length),a≤n→n<b→wroteS (serEf fmt procs s l n l[n]) k=false)→getP (serSt fmt procs s l b) k=getP (serSt fmt procs s l a) k
 | 0,h,_,_=>by rw [show a=0 by omega]
 | b+1,h,hb,hw=>by
  by_cases e:a=b+1
  · rw [e]
  ·
   have ih:=ser_gap hB hs h0 k a b (by omega) (by omega) fun n h h1 h2=>hw n h h1 (by omega);have hO:=ser_one hB hs (show b<l.length by omega);rw [ser_succ (by omega),hO.upd,applyE_get (ser_ok hB hs h0 b) (fun h=>(hO.com h).2),← ih];have:=hw b (by omega) (by omega) (by omega);unfold serEf at this;rw [if_neg (by simp [this])]
theorem ser_wr (hB:BatchIn fmt procs l) (hs:rngL s) {n:Nat} (h:n<l.length) {k:qac} (hw:wroteS (serEf fmt procs s l n l[n]) k=true):qbi l[n].ft.all l[n].ft.reads l[n].ft.writes=true∧(l[n].ft.all=true∨qc8 l[n].ft.writes k=true) :=
 one_foot_writes (one_in hB h) (round_ok hs _ (hB.take n)).rng hw
theorem ser_rd {n:Nat} (h:n<l.length) {k:qac} (hk:k∈(serEf fmt procs s l n l[n]).reads):qbi l[n].ft.all l[n].ft.reads l[n].ft.writes=true∧(l[n].ft.all=true∨qc8 l[n].ft.reads k=true) :=
 one_foot_reads hk
theorem ex_ok (hB:BatchIn fmt procs l) (hs:rngL s) {o:List Nat} (hL:Leg (ftsL l) o):ExOk fmt procs s l o (exO fmt procs s l o):=by
 induction hL with
 | nil =>
  refine ⟨hs,by simp [exO],by simp [exO],id,fun _=>rfl,fun j h hj=>(by cases hj),fun h0 k i hi hw=>?_⟩;have:=ser_gap hB hs h0 k 0 i (by omega) hi fun n h _ hn=>by
   rcases hx:wroteS (serEf fmt procs s l n l[n]) k with _ | _
   · rfl
   ·
    have:=(hw n h hx).2 hn;cases this
  rw [this];rfl
 | @snoc o j hL hj hno hc ih =>
  have hj:j<l.length:=by simpa using hj
  rw [exO_snoc,exN_get hj];have hO:=one_ok (fmt:=fmt) (procs:=procs) (t:=l[j]) hB.fmt hB.body (hB.args _ (List.getElem_mem hj)) ih.rng
  -- its effect is the serial one
  have heff:(oneS fmt procs (exO fmt procs s l o).1 l[j]).2=serEf fmt procs s l j l[j]:=by
   rcases h0:qa3 s with _ | _
   ·
    unfold serEf;rw [ih.no h0,ser_no hB hs h0]
   ·
    refine one_same (ser_ok hB hs h0 j) (ih.ok h0) fun k hk=>?_;obtain ⟨f1,f2⟩:=ser_rd (fmt:=fmt) (procs:=procs) (s:=s) hj hk;refine (ih.get h0 k j (by omega) fun n h hw=>?_).symm;obtain ⟨g1,g2⟩:=ser_wr hB hs h hw;have hcf:qci l[n].ft l[j].ft=true:=confl_of g1 f1 g2 (f2.imp id .inl);constructor
    ·
     intro hn;rcases Nat.lt_trichotomy n j with h1 | h1 | h1
     · exact h1
     · subst h1;exact (hno hn).elim
     · exact (hno (hL.cl n hn j h1 (by rw [conflN_get hj h,conflS_comm];exact hcf))).elim
    ·
     intro hn;exact hc n hn (by rw [conflN_get h hj];exact hcf)
  refine ⟨hO.rng,?_,by simp [ih.cnt],fun h=>hO.ok (ih.ok h),fun h=>?_,fun n hn hm=>?_,fun h0 k i hi hw=>?_⟩
  · have:=ih.len;have:=hO.len;simp only [List.length_append,List.length_singleton];omega
  ·
   have h1:=ih.no h;exact (hO.no (by rw [h1];exact h)).trans h1
  ·
   simp only;by_cases e:n=j
   ·
    subst e;rw [heff];exact List.getElem?_set_self (by rw [ih.cnt];exact hn)
   ·
    rw [List.getElem?_set_ne (fun g=>e g.symm)];simp only [List.mem_append,List.mem_singleton] at hm;exact ih.eff n hn (hm.resolve_right e)
  ·
   simp only;have hOj:=ser_one hB hs hj;have hcom:(serEf fmt procs s l j l[j]).status=1→qc1 (serEf fmt procs s l j l[j]).writes=true:=fun h=>(hOj.com h).2;rw [hO.upd,heff,applyE_get (ih.ok h0) hcom];split
   ·
    rename_i hwj;have hji:j<i:=(hw j hj hwj).1 (by simp);obtain ⟨g1,g2⟩:=ser_wr hB hs hj hwj;have:=ser_gap hB hs h0 k (j+1) i (by omega) hi fun n h h1 h2=>by
     rcases hx:wroteS (serEf fmt procs s l n l[n]) k with _ | _
     · rfl
     ·
      have hm:=(hw n h hx).2 h2;simp only [List.mem_append,List.mem_singleton] at hm;rcases hm with hm | hm
      ·
       obtain ⟨e1,e2⟩:=ser_wr hB hs h hx;exact (hno (hL.cl n hm j (by omega) (by rw [conflN_get hj h];exact confl_of g1 e1 g2 (e2.imp id .inr)))).elim
      · omega
    rw [this,ser_succ hj,hOj.upd,applyE_get (ser_ok hB hs h0 j) (fun h=>(hOj.com h).2)];unfold serEf at hwj;rw [if_pos hwj];rfl
   ·
    rename_i hwj;refine ih.get h0 k i hi fun n h hx=>?_;rw [← hw n h hx];simp only [List.mem_append,List.mem_singleton];constructor
    · exact .inl
    ·
     rintro (h1 | rfl)
     · exact h1
     · exact (hwj hx).elim
theorem ex_serial (hB:BatchIn fmt procs l) (hs:rngL s) {o:List Nat} (hL:Leg (ftsL l) o) (hlen:o.length=l.length):exO fmt procs s l o=qa5 fmt procs s l:=by
 have hX:=ex_ok (fmt:=fmt) (procs:=procs) (s:=s) hB hs hL;have hall:=nodup_all hL.nod hL.lt (by simpa using hlen);have hR:=round_ok (fmt:=fmt) (procs:=procs) hs l hB;refine Prod.ext ?_ ?_
 ·
  have e:serSt fmt procs s l l.length=(qa5 fmt procs s l).1:=by unfold serSt;rw [List.take_length]
  rcases h0:qa3 s with _ | _
  · rw [hX.no h0,hR.no h0]
  ·
   refine state_ext (hX.ok h0) (hR.ok h0) fun k=>?_;rw [← e];exact hX.get h0 k l.length (Nat.le_refl _) fun n h _=>⟨fun _=>h,fun _=>hall n (by simpa using h)⟩
 ·
  refine List.ext_getElem? fun i=>?_;by_cases h:i<l.length
  · rw [hX.eff i h (hall i (by simpa using h)),ser_effs l i h]
  · rw [List.getElem?_eq_none (by rw [hX.cnt];omega),List.getElem?_eq_none (by rw [hR.cnt];omega)]
end
end Go.Cw

namespace Go.Cw
open Go Go.Abs
structure LReq where
 t:Int
 w:Bool
structure LQ where
 key:qac
 reqs:List LReq
structure LT where
 glob:List LReq
 qs:List LQ
def LReq.c (r:LReq):List AV:=[I r.t,Bo r.w]
def LQ.c (q:LQ):List AV:=[S q.key,.slice (q.reqs.map LReq.c)]
def LT.c (t:LT):List AV:=[.slice (t.glob.map LReq.c),.slice (t.qs.map LQ.c)]
abbrev qbg (l:List LQ):List qac:=l.map (·.key)
def ascQ:Option Int→List LReq→Bool
 | _,[]=>true
 | q,r::l=>(!decide (r.t<0)&&q.elim true fun p=>decide (p<r.t))&&ascQ (some r.t) l
def inG (g:List LReq) (t:Int):Bool:=match g.find? fun x=>decide (x.t=t) with | some x=>!x.w | none=>false
def qsOk (g:List LReq):Option qac→List LQ→Bool
 | _,[]=>true
 | k,q::l=>(qdz q.key&&after k q.key&&!q.reqs.isEmpty&&ascQ none q.reqs)&&(q.reqs.all fun r=>inG g r.t)&&qsOk g (some q.key) l
def validT (t:LT):Bool:=ascQ none t.glob&&qsOk t.glob none t.qs
def addQ (k:qac) (r:LReq):List LQ→List LQ
 | []=>[⟨k,[r]⟩]
 | q::l=>if sLt q.key k=true then q::addQ k r l else if q.key=k then ⟨k,q.reqs++[r]⟩::l else ⟨k,[r]⟩::q::l
def qdv (k:qac):List LQ→List LReq
 | []=>[]
 | q::l=>if q.key=k then q.reqs else qdv k l
theorem reqsOf_out {k:qac}:∀ {l:List LQ},(∀ q∈l,q.key≠k)→qdv k l=[]
 | [],_=>rfl
 | q::l,h=>by rw [qdv,if_neg (h q (by simp)),reqsOf_out fun q hq=>h q (by simp [hq])]
theorem reqsOf_in {k:qac} {r:List LReq}:∀ {l:List LQ},qb7 (qbg l)→(⟨k,r⟩:LQ)∈l→qdv k l=r
 | [],_,h=>by cases h
 | q::l,ha,h=>by
  obtain ⟨h1,h2⟩:=List.pairwise_cons.1 ha;rw [qdv];rcases List.mem_cons.1 h with rfl | h
  · rw [if_pos rfl]
  ·
   have:sLt q.key k=true:=h1 k (List.mem_map.2 ⟨_,h,rfl⟩);rw [if_neg (sLt_ne this)];exact reqsOf_in h2 h
theorem reqsOf_mem {k:qac}:∀ {l:List LQ},qdv k l≠[]→(⟨k,qdv k l⟩:LQ)∈l
 | [],h=>(h rfl).elim
 | q::l,h=>by
  rw [qdv] at h ⊢;by_cases e:q.key=k
  · rw [if_pos e];subst e;simp
  ·
   rw [if_neg e] at h ⊢;exact List.mem_cons_of_mem _ (reqsOf_mem h)
theorem addQ_keys {k:qac} {r:LReq}:∀ {l:List LQ} {x:qac},x∈qbg (addQ k r l)→x=k∨x∈qbg l
 | [],x,h=>by simpa [addQ] using h
 | q::l,x,h=>by
  rw [addQ] at h;split at h
  ·
   simp only [List.map_cons,List.mem_cons] at h ⊢;rcases h with h | h
   · exact .inr (.inl h)
   · exact (addQ_keys h).imp id .inr
  ·
   split at h
   ·
    simp only [List.map_cons,List.mem_cons] at h ⊢;exact h.imp id .inr
   · simpa using h
theorem addQ_asc {k:qac} {r:LReq}:∀ {l:List LQ},qb7 (qbg l)→qb7 (qbg (addQ k r l))
 | [],_=>by simp [addQ,qb7]
 | q::l,h=>by
  obtain ⟨h1,h2⟩:=List.pairwise_cons.1 h;rw [addQ];split
  ·
   rename_i hk;refine List.pairwise_cons.2 ⟨fun x hx=>?_,addQ_asc h2⟩;rcases addQ_keys hx with rfl | hx
   · exact hk
   · exact h1 x hx
  ·
   rename_i hk;split
   ·
    rename_i e;subst e;exact h
   ·
    rename_i e;have hlt:sLt k q.key=true:=by
     rcases Bool.eq_false_or_eq_true (sLt k q.key) with g | g
     · exact g
     · exact (e (sLt_eq hk (by rw [g];simp))).elim
    refine List.pairwise_cons.2 ⟨fun x hx=>?_,h⟩;simp only [List.map_cons,List.mem_cons] at hx;rcases hx with rfl | hx
    · exact hlt
    · exact qc9 hlt (h1 x hx)
theorem addQ_mem {k:qac} {r:LReq}:∀ {l:List LQ},qb7 (qbg l)→∀ q,q∈addQ k r l↔(q.key≠k∧q∈l)∨q=⟨k,qdv k l++[r]⟩
 | [],_,q=>by simp [addQ,qdv]
 | x::l,h,q=>by
  obtain ⟨h1,h2⟩:=List.pairwise_cons.1 h;rw [addQ,qdv];split
  ·
   rename_i hk;rw [if_neg (sLt_ne hk),List.mem_cons,addQ_mem h2 q,List.mem_cons];constructor
   ·
    rintro (rfl | ⟨a,b⟩ | e)
    · exact .inl ⟨sLt_ne hk,.inl rfl⟩
    · exact .inl ⟨a,.inr b⟩
    · exact .inr e
   ·
    rintro (⟨a,rfl | b⟩ | e)
    · exact .inl rfl
    · exact .inr (.inl ⟨a,b⟩)
    · exact .inr (.inr e)
  ·
   rename_i hk;have hout:∀ q∈l,x.key≠q.key:=fun q hq=>sLt_ne (h1 _ (List.mem_map.2 ⟨q,hq,rfl⟩));split
   ·
    rename_i e;subst e;simp only [List.mem_cons];constructor
    ·
     rintro (e | b)
     · exact .inr e
     · exact .inl ⟨fun e=>hout q b e.symm,.inr b⟩
    ·
     rintro (⟨a,rfl | b⟩ | e)
     · exact (a rfl).elim
     · exact .inr b
     · exact .inl e
   ·
    rename_i e;have hlt:sLt k x.key=true:=by
     rcases Bool.eq_false_or_eq_true (sLt k x.key) with g | g
     · exact g
     · exact (e (sLt_eq hk (by rw [g];simp))).elim
    have hno:∀ q∈x::l,q.key≠k:=fun q hq e'=>by
     rcases List.mem_cons.1 hq with rfl | hq
     · exact e e'
     ·
      have:=qc9 hlt (h1 _ (List.mem_map.2 ⟨q,hq,rfl⟩));exact sLt_ne this e'.symm
    rw [reqsOf_out fun q hq=>hno q (by simp [hq])];simp only [List.nil_append];rw [List.mem_cons];constructor
    ·
     rintro (e | b)
     · exact .inr e
     · exact .inl ⟨hno q b,b⟩
    ·
     rintro (⟨_,b⟩ | e)
     · exact .inr b
     · exact .inl e
theorem reqsOf_addQ {k x:qac} {r:LReq} {l:List LQ} (h:qb7 (qbg l)):qdv x (addQ k r l)=if x=k then qdv k l++[r] else qdv x l:=by
 by_cases e:x=k
 ·
  subst e;rw [if_pos rfl];exact reqsOf_in (addQ_asc h) ((addQ_mem h _).2 (.inr rfl))
 ·
  rw [if_neg e];by_cases hn:qdv x l=[]
  ·
   rw [hn];by_cases hn2:qdv x (addQ k r l)=[]
   · exact hn2
   ·
    have hm:=(addQ_mem h _).1 (reqsOf_mem hn2);rcases hm with ⟨_,hm⟩ | hm
    ·
     have:=reqsOf_in h hm;rw [hn] at this;exact this.symm
    · exact (e (congrArg LQ.key hm)).elim
  · exact reqsOf_in (addQ_asc h) ((addQ_mem h _).2 (.inl ⟨e,reqsOf_mem hn⟩))
def addsQ (r:qac→LReq) (ks:List qac) (l:List LQ):List LQ:=ks.foldl (fun l k=>addQ k (r k) l) l
theorem addsQ_spec {r:qac→LReq}:∀ (ks:List qac) (l:List LQ),ks.Nodup→qb7 (qbg l)→qb7 (qbg (addsQ r ks l))∧∀ q,q∈addsQ r ks l↔(q.key∉ks∧q∈l)∨(q.key∈ks∧q.reqs=qdv q.key l++[r q.key])
 | [],l,_,h=>⟨h,fun q=>by simp [addsQ]⟩
 | k::ks,l,hn,h=>by
  obtain ⟨n1,n2⟩:=List.nodup_cons.1 hn;obtain ⟨i1,i2⟩:=addsQ_spec (r:=r) ks (addQ k (r k) l) n2 (addQ_asc h);refine ⟨i1,fun q=>?_⟩;show q∈addsQ r ks (addQ k (r k) l)↔_;rw [i2,addQ_mem h,reqsOf_addQ h];simp only [List.mem_cons,not_or];constructor
  ·
   rintro (⟨a,⟨b,c⟩ | rfl⟩ | ⟨a,b⟩)
   · exact .inl ⟨⟨b,a⟩,c⟩
   · exact .inr ⟨.inl rfl,rfl⟩
   ·
    have:q.key≠k:=fun e=>n1 (e▸a);rw [if_neg this] at b;exact .inr ⟨.inr a,b⟩
  ·
   rintro (⟨⟨a,b⟩,c⟩ | ⟨a | a,b⟩)
   · exact .inl ⟨b,.inl ⟨a,c⟩⟩
   ·
    left;refine ⟨by rw [a];exact n1,.inr ?_⟩;obtain ⟨qk,qr⟩:=q;simp only at a b;subst a;rw [b]
   ·
    have:q.key≠k:=fun e=>n1 (e▸a);exact .inr ⟨a,by rw [if_neg this];exact b⟩
def hasF (f:Foot) (k:qac):Bool:=qc8 f.writes k||qc8 f.reads k
def rq (fs:Nat→Foot) (k:qac) (R:List Nat):List LReq:=(R.filter fun i=>hasF (fs i) k).map fun (i:Nat)=>⟨(i:Int),qc8 (fs i).writes k⟩
structure TabOk (fs:Nat→Foot) (R:List Nat) (T:LT):Prop where
 glob:T.glob=R.map fun (i:Nat)=>⟨(i:Int),(fs i).all⟩
 asc:qb7 (qbg T.qs)
 mem:∀ q,q∈T.qs↔q.reqs=rq fs q.key R∧q.reqs≠[]
theorem tab_nil (fs:Nat→Foot):TabOk fs [] ⟨[],[]⟩:=⟨rfl,by simp [qb7],fun q=>by simp [rq]⟩
theorem rq_snoc (fs:Nat→Foot) (k:qac) (R:List Nat) (n:Nat):rq fs k (R++[n])=if hasF (fs n) k=true then rq fs k R++[⟨(n:Int),qc8 (fs n).writes k⟩] else rq fs k R:=by
 unfold rq;rw [List.filter_append];by_cases h:hasF (fs n) k=true
 · simp [h]
 · simp [h]
theorem tab_reqsOf {fs:Nat→Foot} {R:List Nat} {T:LT} (h:TabOk fs R T) (k:qac):qdv k T.qs=rq fs k R:=by
 by_cases e:rq fs k R=[]
 ·
  rw [e];by_cases hn:qdv k T.qs=[]
  · exact hn
  ·
   have:=((h.mem _).1 (reqsOf_mem hn)).1;exact this.trans e
 · exact reqsOf_in h.asc ((h.mem ⟨k,rq fs k R⟩).2 ⟨rfl,e⟩)
theorem tab_add {fs:Nat→Foot} {R:List Nat} {T:LT} {n:Nat} {ks:List qac} (h:TabOk fs R T) (hn:ks.Nodup) (hk:∀ k,k∈ks↔hasF (fs n) k=true) :
  TabOk fs (R++[n]) ⟨T.glob++[⟨(n:Int),(fs n).all⟩],addsQ (fun k=>⟨(n:Int),qc8 (fs n).writes k⟩) ks T.qs⟩:=by
 obtain ⟨a1,a2⟩:=addsQ_spec (r:=fun k=>⟨(n:Int),qc8 (fs n).writes k⟩) ks T.qs hn h.asc;refine ⟨by simp [h.glob],a1,fun q=>?_⟩;simp only;rw [a2,rq_snoc,tab_reqsOf h,h.mem,hk];by_cases e:hasF (fs n) q.key=true
 ·
  rw [if_pos e];constructor
  ·
   rintro (⟨a,_⟩ | ⟨_,b⟩)
   · exact (a e).elim
   · exact ⟨b,by rw [b];simp⟩
  ·
   rintro ⟨a,_⟩;exact .inr ⟨e,a⟩
 ·
  rw [if_neg e];constructor
  ·
   rintro (⟨_,b⟩ | ⟨a,_⟩)
   · exact b
   · exact (e a).elim
  ·
   intro b;exact .inl ⟨e,b⟩
def dropQ (t:Int) (l:List LReq):List LReq:=l.filter fun r=>!decide (r.t=t)
def relQ (t:Int):List LQ→List LQ
 | []=>[]
 | q::l=>if dropQ t q.reqs=[] then relQ t l else ⟨q.key,dropQ t q.reqs⟩::relQ t l
def relT (t:Int) (T:LT):LT:=⟨dropQ t T.glob,relQ t T.qs⟩
theorem relQ_mem {t:Int}:∀ (l:List LQ) (q:LQ),q∈relQ t l↔q.reqs≠[]∧∃ x∈l,x.key=q.key∧dropQ t x.reqs=q.reqs
 | [],q=>by simp [relQ]
 | x::l,q=>by
  rw [relQ];split
  ·
   rename_i e;rw [relQ_mem l q];constructor
   · rintro ⟨a,y,hy,b⟩;exact ⟨a,y,by simp [hy],b⟩
   ·
    rintro ⟨a,y,hy,b,c⟩;rcases List.mem_cons.1 hy with rfl | hy
    · rw [e] at c;exact (a c.symm).elim
    · exact ⟨a,y,hy,b,c⟩
  ·
   rename_i e;rw [List.mem_cons,relQ_mem l q];constructor
   ·
    rintro (rfl | ⟨a,y,hy,b⟩)
    · exact ⟨e,x,by simp,rfl,rfl⟩
    · exact ⟨a,y,by simp [hy],b⟩
   ·
    rintro ⟨a,y,hy,b,c⟩;rcases List.mem_cons.1 hy with rfl | hy
    ·
     left;obtain ⟨qk,qr⟩:=q;simp only at b c;subst b c;rfl
    · exact .inr ⟨a,y,hy,b,c⟩
theorem relQ_keys {t:Int}:∀ {l:List LQ} {k:qac},k∈qbg (relQ t l)→k∈qbg l:=fun {l k} h=>by
 obtain ⟨q,hq,rfl⟩:=List.mem_map.1 h;obtain ⟨_,x,hx,e,_⟩:=(relQ_mem l q).1 hq;exact List.mem_map.2 ⟨x,hx,e⟩
theorem relQ_asc {t:Int}:∀ {l:List LQ},qb7 (qbg l)→qb7 (qbg (relQ t l))
 | [],_=>by simp [relQ,qb7]
 | q::l,h=>by
  obtain ⟨h1,h2⟩:=List.pairwise_cons.1 h;rw [relQ];split
  · exact relQ_asc h2
  · exact List.pairwise_cons.2 ⟨fun x hx=>h1 x (relQ_keys hx),relQ_asc h2⟩
theorem dropQ_rq (fs:Nat→Foot) (k:qac) (R:List Nat) (n:Nat):dropQ n (rq fs k R)=rq fs k (R.filter fun i=>!decide (i=n)):=by
 unfold dropQ rq;rw [List.filter_map,List.filter_filter,List.filter_filter];congr 1;refine List.filter_congr fun i _=>?_;simp only [Function.comp];rw [Bool.and_comm];congr 1;by_cases e:i=n
 · simp [e]
 ·
  have:¬ (i:Int)=n:=by omega
  simp [e,this]
theorem tab_rel {fs:Nat→Foot} {R:List Nat} {T:LT} (h:TabOk fs R T) (n:Nat):TabOk fs (R.filter fun i=>!decide (i=n)) (relT n T):=by
 refine ⟨?_,relQ_asc h.asc,fun q=>?_⟩
 ·
  unfold relT dropQ;simp only;rw [h.glob,List.filter_map];congr 1;refine List.filter_congr fun i _=>?_;simp only [Function.comp];by_cases e:i=n
  · simp [e]
  ·
   have:¬ (i:Int)=n:=by omega
   simp [e,this]
 ·
  unfold relT;simp only;rw [relQ_mem];constructor
  ·
   rintro ⟨a,x,hx,b,c⟩;have:=((h.mem x).1 hx).1;rw [this,dropQ_rq,b] at c;exact ⟨c.symm,a⟩
  ·
   rintro ⟨a,b⟩;refine ⟨b,⟨q.key,rq fs q.key R⟩,(h.mem _).2 ⟨rfl,fun e=>b ?_⟩,rfl,?_⟩
   ·
    have e:rq fs q.key R=[]:=e;rw [a,← dropQ_rq,e];rfl
   · rw [a,dropQ_rq]
end Go.Cw
