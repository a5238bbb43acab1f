/- Part 3 of a proof: AbsF, AbsG, AbsH, AbsI, AbsJ, AbsK -/
import Derived.Test.YtdbpbpmikpdjcaaGreatDoorQ01
import Derived.Test.YtdbpbpmikpdjcaaGreatDoorQ02
set_option linter.all false

namespace Go.Abs
theorem choose_list {α:Type} (p:Nat→α→Prop):∀ n,(∀ j,j<n→∃ v,p j v)→∃ vs:List α,vs.length=n∧∀ j v,vs[j]?=some v→p j v
 | 0,_=>⟨[],rfl,by simp⟩
 | n+1,h=>by
  obtain ⟨vs,hl,hp⟩:=choose_list p n (fun j hj=>h j (by omega))
  obtain ⟨v,hv⟩:=h n (by omega)
  refine ⟨vs++[v],by simp [hl],fun j u hu=>?_⟩
  rcases qal hu with h1 | ⟨rfl,rfl⟩
  · exact hp j u h1
  · rw [hl];exact hv
section
variable {P:Program} {c:Ctx} {h:qaa} {w:World}
theorem addLit (b o n:Nat):Addr.add ⟨b,o,none⟩ n=⟨b,o+n,none⟩:=Addr.add_lit b o n
theorem load_ok {t:TypeId} {b o:Nat} {xs:List AV} (hk:qaf P t≠.other)
  (hc:∀ (j:Nat) (x:AV),xs[j]?=some x→∃ v,w.cell? ⟨b,o+j,none⟩=some v∧Rel c x v∧v.oneCell'=true)
  (hs:(aLoad (qar P t) (qaf P t).agg xs).side):∃ v,(loadVar t ⟨b,o,none⟩).run P w=.ok v w∧Rel c (aLoad (qar P t) (qaf P t).agg xs).val v:=by
 obtain ⟨i,d,z,h1,h2,h3,h4,h5,_⟩:=qas rfl hk
 have ha:=run_isAggD h2 (by rw [h4];exact hk) w
 rw [h4] at ha
 unfold loadVar
 simp only [Sem.run_bind,ha,Result.andThen_ok]
 cases hag:(qaf P t).agg with
 | true =>
  simp only [hag,aLoad] at hs ⊢
  obtain ⟨vs,hl,hp⟩:=choose_list (fun j v=>w.cell? ⟨b,o+j,none⟩=some v∧(∀ x,xs[j]?=some x→Rel c x v)∧v.oneCell'=true) (qar P t) (fun j hj=>by
   have hlt:j<xs.length:=by omega
   obtain ⟨v,hv,hr,h1⟩:=hc j xs[j] (by simp [hlt])
   exact ⟨v,hv,fun x hx=>by simp [hlt] at hx;subst hx;exact hr,h1⟩)
  have hrun:=run_loadCells_list (P:=P) w ⟨b,o,none⟩ vs (fun j v hv=>by rw [addLit];exact (hp j v hv).1)
  rw [hl,h5] at hrun
  refine ⟨.agg vs.toArray,by simp [qba h1,hrun],.agg _ _ (by simp [hl];omega) (fun j v hv=>(hp j v (by simpa using hv)).2.2) fun j x v hx hv=>?_⟩
  rw [List.getElem?_take] at hx
  split at hx
  · exact (hp j v (by simpa using hv)).2.1 x hx
  · cases hx
 | false =>
  simp only [hag,aLoad] at hs ⊢
  obtain ⟨v,hv,hr,_⟩:=hc 0 (xs.getD 0 .top) (by simp [List.getD,hs])
  refine ⟨v,?_,hr⟩
  simp only [Bool.false_eq_true,if_false,run_load]
  simp only [Nat.add_zero] at hv
  rw [hv]
theorem eptr_cells {cells:List AV} {v:Value} (hr:Rel c (.eptr cells) v) :
  ∃ b o,v=.pointer (some ⟨b,o,none⟩)∧(∀ (j:Nat) (x:AV),cells[j]?=some x→∃ u,c.D b (o+j)=some u∧DRel c.D x u):=by
 cases hr with
 | data h=>cases h
 | eptr cells b o g hD h=>exact ⟨b,o,rfl,fun j x hx=>⟨g j,hD j x hx,h j x hx⟩⟩
theorem eptr_mk {cells:List AV} {b o:Nat} (h:∀ (j:Nat) (x:AV),cells[j]?=some x→∃ u,c.D b (o+j)=some u∧DRel c.D x u):Rel c (.eptr cells) (.pointer (some ⟨b,o,none⟩)) :=
 .eptr cells b o (fun j=>(c.D b (o+j)).getD undef) (fun j x hx=>by obtain ⟨u,hu,_⟩:=h j x hx;simp [hu]) (fun j x hx=>by obtain ⟨u,hu,hd⟩:=h j x hx;simpa [hu] using hd)
theorem ptr_inv {i off:Nat} {v:Value} (hr:Rel c (.ptr i off) v):∃ b,v=.pointer (some ⟨b,off,none⟩)∧c.blk i=some b:=by
 cases hr with
 | data h=>cases h
 | ptr i off b h=>exact ⟨b,rfl,h⟩
theorem ptr_cells (hs:HSim c h w) {i off:Nat} {xs:List AV} {v:Value} (hr:Rel c (.ptr i off) v) (hi:h[i]?=some (.cells xs)) :
  ∃ b,v=.pointer (some ⟨b,off,none⟩)∧c.blk i=some b∧(∀ (j:Nat) (x:AV),(xs.drop off)[j]?=some x→∃ u,w.cell? ⟨b,off+j,none⟩=some u∧Rel c x u∧u.oneCell'=true):=by
 obtain ⟨b,rfl,hb⟩:=ptr_inv hr
 refine ⟨b,rfl,hb,fun j x hx=>?_⟩
 obtain ⟨b',vs,T,h1,h2,h3,h4⟩:=hs.obj i _ hi
 rw [hb] at h1
 cases h1
 rw [List.getElem?_drop] at hx
 have hlt:off+j<vs.size:=by rw [h3];exact (List.getElem?_eq_some_iff.1 hx).1
 have:=h4 (off+j) x vs[off+j] hx (by simp [hlt])
 exact ⟨vs[off+j],by rw [cell_of_row w b _ vs T (0,0) h2];simp [hlt],this⟩
theorem own_inv (hs:HSim c h w) {i n e sz:Nat} {rows:List (List AV)} (hi:h[i]?=some (.uarr e sz rows)) (hn:rows.length=n) {v:Value} (hr:Rel c (.own i n) v) :
  c.sl i n=some v∧∃ vs,w.ownsRow 0 e sz v n vs∧(∀ r,r∈rows→r.length=sz)∧∀ (i' j:Nat) (r:List AV) (x:AV),rows[i']?=some r→r[j]?=some x→∃ u,vs[i' * sz+j]?=some u∧DRel c.D x u:=by
 subst hn
 cases hr with
 | data h=>cases h
 | own i n v hv ho =>
  obtain ⟨v',vs,h1,_,_,h2,_,h4,h5⟩:=hs.obj i _ hi
  rw [hv] at h1
  cases h1
  exact ⟨hv,vs,h2,h4,h5⟩
theorem optr_inv {i n sz r q:Nat} {v:Value} (hr:Rel c (.optr i n sz r q) v):∃ b o len cap,v=.pointer (some ⟨b,o+(r * sz+q),none⟩)∧c.sl i n=some (.slice (some ⟨b,o,none⟩) len cap):=by
 cases hr with
 | data h=>cases h
 | optr _ _ _ _ _ b o len cap h=>exact ⟨b,o,len,cap,rfl,h⟩
theorem optr_cells (hs:HSim c h w) {i n e sz r:Nat} {rows:List (List AV)} (hi:h[i]?=some (.uarr e sz rows)) (hn:rows.length=n) {b o len cap:Nat} (hv:c.sl i n=some (.slice (some ⟨b,o,none⟩) len cap)) (hr:r<rows.length) :
  o=0∧∀ (j:Nat) (x:AV),(rows.getD r [])[j]?=some x→∃ u,w.cell? ⟨b,r * sz+j,none⟩=some u∧DRel c.D x u:=by
 subst hn
 obtain ⟨v',vs,h1,_,_,h2,_,h4,h5⟩:=hs.obj i _ hi
 rw [hv] at h1
 cases h1
 have hg:(Value.slice (some ⟨b,o,none⟩) len cap).ownBlock=some b:=rfl
 constructor
 ·
  rcases h2.2 with ⟨e1,_⟩ | ⟨g,cp,cur,e1,_⟩
  · cases e1
  · cases e1;rfl
 ·
  intro j x hx
  have hrow:rows[r]?=some (rows.getD r []):=by simp [List.getD,hr]
  obtain ⟨u,hu,hd⟩:=h5 r j _ x hrow hx
  have:=h2.cells hg _ u hu
  rw [addLit,Nat.zero_add] at this
  exact ⟨u,this,hd⟩
theorem loadAt_ok {t:TypeId} {a:AV} {u:Value} (hs:HSim c h w) (hr:Rel c a u) (hside:(aLoadAt P t a h).side) :
  ∃ v,(Instr.loadAt t u).run P w=.ok v w∧Rel c (aLoadAt P t a h).val v:=by
 unfold aLoadAt at hside ⊢
 cases a with
 | ptr i off =>
  simp only at hside ⊢
  cases hi:h[i]? with
  | none=>simp [hi,SV.no] at hside
  | some ob =>
   cases ob with
   | cells xs =>
    simp only [hi] at hside ⊢
    obtain ⟨b,rfl,hb,hc⟩:=ptr_cells hs hr hi
    obtain ⟨v,hv,hrel⟩:=load_ok (P:=P) (t:=t) hside.2 hc hside.1
    exact ⟨v,by simp [Instr.loadAt,Instr.sureAddr,hv],hrel⟩
   | _=>simp [hi,SV.no] at hside
 | eptr cells =>
  simp only at hside ⊢
  obtain ⟨b,o,rfl,hc⟩:=eptr_cells hr
  obtain ⟨v,hv,hrel⟩:=load_ok (P:=P) (w:=w) (t:=t) (c:=c) (b:=b) (o:=o) hside.2 (fun j x hx=>by
   obtain ⟨u,hu,hd⟩:=hc j x hx
   exact ⟨u,hs.data _ _ _ hu,.data hd,hd.one⟩) hside.1
  exact ⟨v,by simp [Instr.loadAt,Instr.sureAddr,hv],hrel⟩
 | optr i n sz r q =>
  simp only at hside ⊢
  cases hi:h[i]? with
  | none=>simp [hi,SV.no] at hside
  | some ob =>
   cases ob with
   | uarr e sz' rows =>
    simp only [hi] at hside ⊢
    obtain ⟨hn,rfl,hr',hl,hk⟩:=hside
    obtain ⟨b,o,len,cap,rfl,hv⟩:=optr_inv hr
    obtain ⟨rfl,hc⟩:=optr_cells hs hi hn hv hr'
    obtain ⟨v,hv',hrel⟩:=load_ok (P:=P) (w:=w) (t:=t) (c:=c) (b:=b) (o:=0+(r * sz'+q)) hk (fun j x hx=>by
     rw [List.getElem?_drop] at hx
     obtain ⟨u,hu,hd⟩:=hc _ x hx
     exact ⟨u,by rw [Nat.zero_add,Nat.add_assoc];exact hu,.data hd,hd.one⟩) hl
    exact ⟨v,by simp only [Instr.loadAt,Instr.sureAddr,Sem.run_bind,Sem.run_pure,Result.andThen_ok];exact hv',hrel⟩
   | _=>simp [hi,SV.no] at hside
 | _=>exact hside.elim
theorem aField_spec {s f o n:Nat} (hf:aField P s f=some (o,n)):∃ l fd i,P.underlying s=some (.struct l)∧l[f]?=some fd∧fd.offset=o∧P.info? fd.type=some i∧i.size=n∧0<n:=by
 unfold aField at hf
 split at hf
 ·
  rename_i fs hk
  obtain ⟨i,d,z,h1,h2,h3,h4,h5,_⟩:=qas hk (by simp)
  obtain ⟨l,rfl,hall,rfl⟩:=kind_struct h4
  split at hf
  ·
   rename_i o' n' hl
   split at hf
   · cases hf
   ·
    rename_i hn
    cases hf
    simp only [List.getElem?_map,Option.map_eq_some_iff,Prod.mk.injEq] at hl
    obtain ⟨fd,hfd,rfl,rfl⟩:=hl
    obtain ⟨i',hi'⟩:=hall fd (List.mem_of_getElem? hfd)
    refine ⟨l,fd,i',h2,by simpa using hfd,rfl,hi',by simp [Program.cellsOf,hi'],by omega⟩
  · cases hf
 · cases hf
theorem fieldAt_run {s f o n b off:Nat} (hf:aField P s f=some (o,n)):(Instr.fieldAt s (.pointer (some ⟨b,off,none⟩)) f).run P w=.ok (.pointer (some ⟨b,off+o,none⟩)) w:=by
 obtain ⟨l,fd,i,h1,h2,rfl,h3,rfl,h4⟩:=aField_spec hf
 have hne:¬ i.size=0:=by omega
 simp [Instr.fieldAt,qay h1,h2,Instr.sureAddr,fieldPlace,qba h3,hne,addLit]
theorem indexAddr_ok {T:TypeId} {x i:AV} {u v:Value} (hs:HSim c h w) (hx:Rel c x u) (hi:Rel c i v) (hside:(qcv P T x i h).side) :
  ∃ r,(Instr.indexAt T u v).run P w=.ok r w∧Rel c (qcv P T x i h).val r:=by
 unfold qcv at hside ⊢
 split at hside
 ·
  rename_i e sz rows k n hk
  obtain ⟨h0,hlt,hrow,hsz⟩:=hside
  obtain rfl:=hi.val_inv
  obtain ⟨i',d,z,h1,h2,h3,h4,h5,_⟩:=qas hk (by simp)
  obtain ⟨rfl,ie,hie,rfl⟩:=qbj h4
  have hd:=hx.slice_inv
  cases hd with
  | nil=>simp at hlt
  | empty a=>simp at hlt
  | slice rows b off cap sz g hsz' hB hc hD hr =>
   have hrow':rows[n.toNat]?=some (rows.getD n.toNat []):=by simp [List.getD,hlt]
   have hszeq:sz=ie.size:=by rw [← hrow];exact (hsz' _ (List.mem_of_getElem? hrow')).symm
   subst hszeq
   have hcond:(0≤n∧n<(rows.length:Int)):=⟨h0,by omega⟩
   refine ⟨.pointer (some ⟨b,off+n.toNat * ie.size,none⟩),?_,eptr_mk fun j x hx=>?_⟩
   · simp [Instr.indexAt,asIntOf,qay h2,hcond,qba hie,addLit]
   · exact ⟨_,hD n.toNat j _ x hrow' hx,hr n.toNat j _ x hrow' hx⟩
 ·
  rename_i len e sz o off k n hk
  obtain ⟨h0,hlt,hsz⟩:=hside
  obtain rfl:=hi.val_inv
  obtain ⟨i',d,z,h1,h2,h3,h4,h5,_⟩:=qas hk (by simp)
  obtain ⟨rfl,ie,hie,rfl⟩:=kind_array h4
  obtain ⟨b,rfl,hb⟩:=ptr_inv hx
  have hcond:(0≤n∧n<(len:Int)):=⟨h0,by omega⟩
  exact ⟨.pointer (some ⟨b,off+n.toNat * ie.size,none⟩),by simp [Instr.indexAt,asIntOf,Instr.sureAddr,qay h2,hcond,qba hie,addLit],.ptr _ _ _ hb⟩
 ·
  rename_i len e sz cells k n hk
  obtain ⟨h0,hlt,hsz⟩:=hside
  obtain rfl:=hi.val_inv
  obtain ⟨i',d,z,h1,h2,h3,h4,h5,_⟩:=qas hk (by simp)
  obtain ⟨rfl,ie,hie,rfl⟩:=kind_array h4
  obtain ⟨b,off,rfl,hc⟩:=eptr_cells hx
  have hcond:(0≤n∧n<(len:Int)):=⟨h0,by omega⟩
  refine ⟨.pointer (some ⟨b,off+n.toNat * ie.size,none⟩),by simp [Instr.indexAt,asIntOf,Instr.sureAddr,qay h2,hcond,qba hie,addLit],eptr_mk fun j x hx=>?_⟩
  rw [List.getElem?_drop] at hx
  obtain ⟨u,hu,hd⟩:=hc _ x hx
  exact ⟨u,by rw [Nat.add_assoc];exact hu,hd⟩
 ·
  rename_i len e sz o m sz' r q k n hk
  obtain ⟨h0,hlt,hsz⟩:=hside
  obtain rfl:=hi.val_inv
  obtain ⟨i',d,z,h1,h2,h3,h4,h5,_⟩:=qas hk (by simp)
  obtain ⟨rfl,ie,hie,rfl⟩:=kind_array h4
  obtain ⟨b,o',len',cap,rfl,hv⟩:=optr_inv hx
  have hcond:(0≤n∧n<(len:Int)):=⟨h0,by omega⟩
  refine ⟨.pointer (some ⟨b,o'+(r * sz'+q)+n.toNat * ie.size,none⟩),by simp [Instr.indexAt,asIntOf,Instr.sureAddr,qay h2,hcond,qba hie,addLit],?_⟩
  have:=Rel.optr (c:=c) o m sz' r (q+n.toNat * ie.size) b o' len' cap hv
  rw [show o'+(r * sz'+q)+n.toNat * ie.size=o'+(r * sz'+(q+n.toNat * ie.size)) by omega]
  exact this
 ·
  rename_i e sz o m k n hk
  split at hside
  ·
   rename_i e' sz' rows ho
   simp only [ho]
   obtain ⟨hm,rfl,h0,hlt,hsz⟩:=hside
   obtain rfl:=hi.val_inv
   obtain ⟨i',d,z,h1,h2,h3,h4,h5,_⟩:=qas hk (by simp)
   obtain ⟨rfl,ie,hie,rfl⟩:=qbj h4
   obtain ⟨hv,vs,hown,_⟩:=own_inv hs ho hm hx
   rcases hown.2 with ⟨rfl,hz⟩ | ⟨g,cap,cur,rfl,_⟩
   · omega
   ·
    have hcond:(0≤n∧n<(m:Int)):=⟨h0,by omega⟩
    refine ⟨.pointer (some ⟨g,0+n.toNat * ie.size,none⟩),by simp [Instr.indexAt,asIntOf,qay h2,hcond,qba hie,addLit],?_⟩
    exact .optr o m ie.size n.toNat 0 g 0 m cap hv
  · exact hside.elim
 · exact hside.elim
theorem index_ok {T:TypeId} {x i:AV} {u v:Value} (hx:Rel c x u) (hi:Rel c i v) (hside:(aIndex P T x i).side) :
  ∃ r,(Instr.index T u v).run P w=.ok r w∧Rel c (aIndex P T x i).val r:=by
 unfold aIndex at hside ⊢
 split at hside
 ·
  rename_i s k n hk
  obtain ⟨h0,hlt⟩:=hside
  obtain rfl:=hi.val_inv
  obtain rfl:=hx.val_inv
  obtain ⟨i',d,z,h1,h2,h3,h4,h5,_⟩:=qas hk (by simp)
  obtain rfl:=kind_string h4
  have hb:(if 0≤n then s[n.toNat]? else none)=some (byteAt s n):=by
   have h1:s.data.size=s.size:=rfl
   have hlt':n.toNat<s.data.size:=by rw [h1];exact hlt
   rw [if_pos h0]
   show (if h:n.toNat<s.size then some s[n.toNat] else none)=_
   rw [dif_pos hlt]
   congr 1
   show s.data[n.toNat]=_
   simp [byteAt,List.getD,Array.getElem?_eq_getElem hlt']
  exact ⟨_,by simp [Instr.index,asIntOf,qay h2,hb],.val _⟩
 ·
  rename_i len e sz cs k n hk
  obtain ⟨h0,hlt,hcl,rfl,ho,hag⟩:=hside
  obtain rfl:=hi.val_inv
  obtain ⟨i',d,z,h1,h2,h3,h4,h5,_⟩:=qas hk (by simp)
  obtain ⟨rfl,ie,hie,hsz⟩:=kind_array h4
  obtain ⟨i2,d2,z2,g1,g2,g3,g4,g5,_⟩:=qas rfl ho
  have ha:=run_isAggD g2 (by rw [g4];exact ho) w
  rw [g4,hag] at ha
  have hcond:(0≤n∧n<(len:Int)):=⟨h0,by omega⟩
  cases hx with
  | data hd=>cases hd
  | agg _ vs hl hone hr =>
   have hlv:n.toNat<vs.size:=by omega
   refine ⟨vs[n.toNat],?_,hr n.toNat _ _ (by rw [List.getD_eq_getElem?_getD,List.getElem?_eq_getElem hcl,Option.getD_some]) (by simp [hlv])⟩
   simp [Instr.index,asIntOf,qay h2,hcond,qba hie,hsz,part,ha,hlv]
 · exact hside.elim
theorem len_ok {T:TypeId} {x:AV} {u:Value} (hs:HSim c h w) (hx:Rel c x u) (hside:(aLen P T x h).side) (ty:TypeId) :
  ∃ r,(Builtin.len_ #[T] ty #[u]).run P w=.ok r w∧Rel c (aLen P T x h).val r:=by
 have hlen:(Builtin.len_ #[T] ty #[u]).run P w=(do
   match ← underlying T,u with
   | .string,.string s=>pure (goInt s.size)
   | .array n _,_=>pure (goInt n)
   | .pointer arr,_ =>
    let .array n _ ← underlying arr | stuck "len: pointer to array expected"
    pure (goInt n)
   | .slice _,.slice _ n _=>pure (goInt n)
   | .map _ _,.map none | .chan _ _,.chan none=>pure (goInt 0)
   | .map _ _,.map (some r) =>
    let .map entries _ ← getObj r | stuck "len: map expected"
    pure (goInt entries.size)
   | .chan _ _,.chan (some r) =>
    let .chan _ buf _ _ _ timer ← getObj r | stuck "len: channel expected"
    pure (goInt (if timer then 0 else buf.size))
   | _,_=>stuck "len: string, array, pointer to array, slice, map or channel expected":Sem Value).run P w:=by
  rfl
 rw [hlen]
 unfold aLen at hside ⊢
 split at hside
 ·
  rename_i e sz rows hk
  obtain ⟨i',d,z,h1,h2,h3,h4,h5,_⟩:=qas hk (by simp)
  obtain ⟨rfl,ie,hie,rfl⟩:=qbj h4
  have hd:=hx.slice_inv
  cases hd with
  | nil=>exact ⟨.int .i64 0,by simp [qay h2,goInt],.val _⟩
  | empty a=>exact ⟨.int .i64 0,by simp [qay h2,goInt],.val _⟩
  | slice rows b off cap sz g hsz' hB hc hD hr=>exact ⟨.int .i64 rows.length,by simp [qay h2,goInt],.val _⟩
 ·
  rename_i e sz hk
  obtain ⟨i',d,z,h1,h2,h3,h4,h5,_⟩:=qas hk (by simp)
  obtain ⟨rfl,ie,hie,rfl⟩:=qbj h4
  cases hx with
  | data h=>cases h
  | nils=>exact ⟨.int .i64 0,by simp [qay h2,goInt],.val _⟩
 ·
  rename_i e sz o m hk
  split at hside
  ·
   rename_i e' sz' rows ho
   simp only [ho]
   obtain ⟨i',d,z,h1,h2,h3,h4,h5,_⟩:=qas hk (by simp)
   obtain ⟨rfl,ie,hie,rfl⟩:=qbj h4
   obtain ⟨hv,vs,hown,_⟩:=own_inv hs ho hside hx
   have hm:rows.length=m:=hside
   rcases hown.2 with ⟨rfl,hz⟩ | ⟨g,cap,cur,rfl,_⟩
   · exact ⟨.int .i64 0,by simp [qay h2,goInt],by rw [hm,hz];exact .val _⟩
   · exact ⟨.int .i64 m,by simp [qay h2,goInt],by rw [hm];exact .val _⟩
  · exact hside.elim
 ·
  rename_i s hk
  obtain ⟨i',d,z,h1,h2,h3,h4,h5,_⟩:=qas hk (by simp)
  obtain rfl:=kind_string h4
  obtain rfl:=hx.val_inv
  exact ⟨.int .i64 s.size,by simp [qay h2,goInt],.val _⟩
 ·
  rename_i y n e sz hk
  obtain ⟨i',d,z,h1,h2,h3,h4,h5,_⟩:=qas hk (by simp)
  obtain ⟨rfl,ie,hie,rfl⟩:=kind_array h4
  exact ⟨.int .i64 n,by simp [qay h2,goInt],.val _⟩
 · exact hside.elim
end
end Go.Abs

namespace Go.Abs
theorem Rel.one {c:Ctx} {x:AV} {v:Value} (h:Rel c x v) (h1:x.one=true):v.oneCell'=true:=by
 cases h with
 | data h=>exact h.one
 | top v=>simp [AV.one] at h1
 | val v=>exact h1
 | nils=>rfl
 | agg=>simp [AV.one] at h1
 | tuple=>simp [AV.one] at h1
 | ptr=>rfl
 | eptr=>rfl
 | optr=>rfl
 | mapr=>rfl
 | fn=>rfl
 | iface=>rfl
 | own i n v h ho=>exact ho
 | opt=>simp [AV.one] at h1
theorem one_cells {v:Value} (h:v.oneCell'=true):v.cells = #[v]:=by
 cases v<;>first | rfl | simp [Value.oneCell'] at h
theorem Rel.cells {c:Ctx} {x:AV} {v:Value} (h:Rel c x v) (h1:x.cellsOk=true) :
  v.cells.size=x.cells.length∧∀ (j:Nat) (y:AV) (u:Value),x.cells[j]?=some y→v.cells[j]?=some u→Rel c y u∧u.oneCell'=true:=by
 have single:∀ (x:AV) (v:Value),Rel c x v→x.one=true→x.cells=[x]→v.cells.size=x.cells.length∧∀ (j:Nat) (y:AV) (u:Value),x.cells[j]?=some y→v.cells[j]?=some u→Rel c y u∧u.oneCell'=true:=by
  intro x v hr ho hx
  have hv:=hr.one ho
  rw [hx,one_cells hv]
  refine ⟨rfl,fun j y u hy hu=>?_⟩
  cases j with
  | zero=>simp at hy hu;subst hy;subst hu;exact ⟨hr,hv⟩
  | succ j=>simp at hy
 cases x with
 | agg xs =>
  cases h with
  | data h=>cases h
  | agg xs vs hl ho hr=>exact ⟨hl,fun j y u hy hu=>⟨hr j y u hy hu,ho j u hu⟩⟩
 | top=>simp [AV.cellsOk,AV.one] at h1
 | tuple=>simp [AV.cellsOk,AV.one] at h1
 | opt=>simp [AV.cellsOk,AV.one] at h1
 | _=>exact single _ _ h h1 rfl
section
variable {P:Program} {c:Ctx} {h:qaa} {w:World}
theorem bound_run {d:Int} {x:Option AV} {u:Option Value} {n:Int} (hb:boundAV d x=some n) (hx:∀ a,x=some a→∃ v,u=some v∧Rel c a v) (hn:x=none→u=none) :
  (u=none∧n=d)∨(∃ k,u=some (.int k n)):=by
 unfold boundAV at hb
 split at hb
 · rename_i h0;exact .inl ⟨hn rfl,by simpa using hb.symm⟩
 ·
  rename_i k m
  obtain ⟨v,hv,hr⟩:=hx _ rfl
  obtain rfl:=hr.val_inv
  simp at hb
  subst hb
  exact .inr ⟨k,hv⟩
 · cases hb
theorem run_sliceBound {k:IntKind} {n:Int} {y:Nat} {code:BoundsCode} (h0:0≤n) (h1:n≤y):(Instr.sliceBound (.int k n) y code).run P w=.ok n.toNat w:=by
 simp [Instr.sliceBound,asIntOf,h0,h1]
theorem qcx {isS:Bool} {len cap:Nat} {lo hi:Option Value} {l h':Int} (hl:(lo=none∧l=0)∨∃ k,lo=some (.int k l)) (hh:(hi=none∧h'=len)∨∃ k,hi=some (.int k h'))
  (h0:0≤l) (h1:l≤h') (h2:h'≤len) (h3:len≤cap):(Instr.sliceBounds isS len cap lo hi none).run P w=.ok (l.toNat,h'.toNat,cap) w:=by
 have hc:h'≤cap:=by omega
 have hn:l≤(h'.toNat:Int):=by omega
 have h0':0≤h':=by omega
 rcases hl with ⟨rfl,rfl⟩ | ⟨k,rfl⟩<;>rcases hh with ⟨rfl,rfl⟩ | ⟨k',rfl⟩
 · simp [Instr.sliceBounds]
 · simp [Instr.sliceBounds,run_sliceBound h0' hc]
 · simp [Instr.sliceBounds,run_sliceBound h0 h1]
 · simp [Instr.sliceBounds,run_sliceBound h0' hc,run_sliceBound h0 hn]
theorem slice_ok {T:TypeId} {x:AV} {lo hi mx:Option AV} {u:Value} {lo' hi' mx':Option Value} (hx:Rel c x u)
  (hlo:∀ a,lo=some a→∃ v,lo'=some v∧Rel c a v) (hlo0:lo=none→lo'=none) (hhi:∀ a,hi=some a→∃ v,hi'=some v∧Rel c a v) (hhi0:hi=none→hi'=none) (hmx:mx=none→mx'=none)
  (hside:(aSlice P T x lo hi mx).side):∃ r,(Instr.sliceAt T u lo' hi' mx').run P w=.ok r w∧Rel c (aSlice P T x lo hi mx).val r:=by
 unfold aSlice at hside ⊢
 split at hside
 · exact hside.elim
 ·
  obtain rfl:=hmx rfl
  split at hside
  ·
   rename_i e sz rows hk
   obtain ⟨i',d,z,h1,h2,h3,h4,h5,_⟩:=qas hk (by simp)
   obtain ⟨rfl,ie,hie,rfl⟩:=qbj h4
   split at hside
   ·
    rename_i l hh hl hh'
    obtain ⟨ha,hb,hc,hall⟩:=hside
    have e1:=bound_run hl hlo hlo0
    have e2:=bound_run hh' hhi hhi0
    have hd:=hx.slice_inv
    cases hd with
    | nil =>
     have hl0:l=0:=by simp at hc;omega
     have hh0:hh=0:=by simp at hc;omega
     subst hl0;subst hh0
     refine ⟨.slice none 0 0,?_,by simpa using .data .nil⟩
     have:=qcx (P:=P) (w:=w) (isS:=true) (len:=0) (cap:=0) e1 e2 (by omega) (by omega) (by omega) (Nat.le_refl _)
     simp [Instr.sliceAt,Instr.slice,qay h2,this,qba hie]
    | empty a =>
     have hl0:l=0:=by simp at hc;omega
     have hh0:hh=0:=by simp at hc;omega
     subst hl0;subst hh0
     refine ⟨.slice (some a) 0 0,?_,by simpa using .data (.empty a)⟩
     have:=qcx (P:=P) (w:=w) (isS:=true) (len:=0) (cap:=0) e1 e2 (by omega) (by omega) (by omega) (Nat.le_refl _)
     simp [Instr.sliceAt,Instr.slice,qay h2,this,qba hie]
    | slice rows b off cap sz g hsz' hB hc' hD hr =>
     have hrun:=qcx (P:=P) (w:=w) (isS:=true) (len:=rows.length) (cap:=cap) e1 e2 ha hb hc hc'
     have hlen:((rows.take hh.toNat).drop l.toNat).length=hh.toNat - l.toNat:=by simp;omega
     have hget:∀ (i:Nat) (r:List AV),((rows.take hh.toNat).drop l.toNat)[i]?=some r→rows[l.toNat+i]?=some r:=fun i r hi=>by
      rw [List.getElem?_drop,List.getElem?_take] at hi
      split at hi
      · exact hi
      · cases hi
     have hres:∀ ad:Option Addr,(ad=some ⟨b,off,none⟩∧cap=l.toNat)∨ad=some ⟨b,off+l.toNat * ie.size,none⟩→(0<((rows.take hh.toNat).drop l.toNat).length→sz=ie.size) →
       Rel c (.slice ((rows.take hh.toNat).drop l.toNat)) (.slice ad (hh.toNat - l.toNat) (cap - l.toNat)):=by
      intro ad had hsz0
      rw [← hlen]
      have base:∀ o,(0<((rows.take hh.toNat).drop l.toNat).length→o=off+l.toNat * sz)→Rel c (.slice ((rows.take hh.toNat).drop l.toNat)) (.slice (some ⟨b,o,none⟩) ((rows.take hh.toNat).drop l.toNat).length (cap - l.toNat)):=by
       intro o ho
       refine .data (.slice _ b o _ sz (fun i j=>g (l.toNat+i) j) (fun r hr'=>hsz' r (List.mem_of_mem_take (List.mem_of_mem_drop hr'))) (by rw [hlen];omega) (by rw [hlen];omega) (fun i j r x hr' hx'=>?_) fun i j r x hr' hx'=>hr _ j r x (hget i r hr') hx')
       have hpos:0<((rows.take hh.toNat).drop l.toNat).length:=Nat.lt_of_le_of_lt (Nat.zero_le _) (List.getElem?_eq_some_iff.1 hr').1
       have:=hD _ j r x (hget i r hr') hx'
       rw [ho hpos]
       rw [Nat.add_mul] at this
       rw [show off+l.toNat * sz+i * sz+j=off+(l.toNat * sz+i * sz)+j from by omega]
       exact this
      rcases had with ⟨rfl,hcap⟩ | rfl
      · exact base off fun hpos=>by rw [hlen] at hpos;omega
      · exact base _ fun hpos=>by rw [hsz0 hpos]
     have hszr:0<((rows.take hh.toNat).drop l.toNat).length→sz=ie.size:=fun hpos=>by
      rw [hlen] at hpos
      have hlt:l.toNat<rows.length:=by omega
      rw [← hsz' rows[l.toNat] (by simp),hall rows[l.toNat] (by simp)]
     refine ⟨.slice (if cap=l.toNat then some ⟨b,off,none⟩ else some ⟨b,off+l.toNat * ie.size,none⟩) (hh.toNat - l.toNat) (cap - l.toNat),?_,?_⟩
     · simp [Instr.sliceAt,Instr.slice,qay h2,hrun,qba hie,addLit]
     ·
      split
      · rename_i hcl;exact hres _ (.inl ⟨rfl,hcl⟩) hszr
      · exact hres _ (.inr rfl) hszr
   · exact hside.elim
  ·
   rename_i s hk
   obtain ⟨i',d,z,h1,h2,h3,h4,h5,_⟩:=qas hk (by simp)
   obtain rfl:=kind_string h4
   obtain rfl:=hx.val_inv
   split at hside
   ·
    rename_i l hh hl hh'
    obtain ⟨ha,hb,hc⟩:=hside
    have hrun:=qcx (P:=P) (w:=w) (isS:=false) (len:=s.size) (cap:=s.size) (bound_run hl hlo hlo0) (bound_run hh' hhi hhi0) ha hb hc (Nat.le_refl _)
    exact ⟨_,by simp [Instr.sliceAt,Instr.slice,qay h2,hrun],.val _ (by
     have hso:=val_ok hx
     simp only [strOk,decide_eq_true_eq] at hso ⊢
     rw [ByteArray.size_extract]
     omega)⟩
   · exact hside.elim
  · exact hside.elim
theorem min_ok {x y:AV} {u v:Value} (hx:Rel c x u) (hy:Rel c y v) (hside:(aMin x y).side) (ts:Array TypeId) (ty:TypeId):∃ r,(Builtin.min_ ts ty #[u,v]).run P w=.ok r w∧Rel c (aMin x y).val r:=by
 unfold aMin at hside ⊢
 split at hside
 ·
  rename_i k a k' b
  simp only at hside
  subst hside
  obtain rfl:=hx.val_inv
  obtain rfl:=hy.val_inv
  exact ⟨_,by simp [Builtin.min_,Builtin.min2],.val _⟩
 · exact hside.elim
theorem max_ok {x y:AV} {u v:Value} (hx:Rel c x u) (hy:Rel c y v) (hside:(aMax x y).side) (ts:Array TypeId) (ty:TypeId):∃ r,(Builtin.max_ ts ty #[u,v]).run P w=.ok r w∧Rel c (aMax x y).val r:=by
 unfold aMax at hside ⊢
 split at hside
 ·
  rename_i k a k' b
  simp only at hside
  subst hside
  obtain rfl:=hx.val_inv
  obtain rfl:=hy.val_inv
  exact ⟨_,by simp [Builtin.max_,Builtin.max2],.val _⟩
 · exact hside.elim
theorem conv_ok {h:qaa} (hs:HSim c h w) {src dst:TypeId} {x:AV} {u:Value} (hx:Rel c x u) (hside:(aConv P src dst x).side):∃ r,(convert src dst u).run P w=.ok r w∧Rel c (aConv P src dst x).val r:=by
 unfold aConv at hside ⊢
 split at hside
 ·
  rename_i k k' n hk
  obtain ⟨i',d,z,h1,h2,h3,h4,h5,_⟩:=qas hk (by simp)
  obtain rfl:=kind_int h4
  obtain ⟨i'',d',z',g1,g2,_⟩:=qas (P:=P) (t:=src) rfl hside
  obtain rfl:=hx.val_inv
  refine ⟨.int k (k.wrap n),?_,.val _⟩
  simp only [convert,Sem.run_bind,qay h2,qay g2,Result.andThen_ok]
  cases d'<;>simp [Conv.intToInt]
 ·
  rename_i s hk
  obtain ⟨i',d,z,h1,h2,h3,h4,h5,_⟩:=qas hk (by simp)
  obtain rfl:=kind_string h4
  obtain ⟨i'',d',z',g1,g2,_⟩:=qas (P:=P) (t:=src) rfl hside
  obtain rfl:=hx.val_inv
  refine ⟨.string s,?_,.val _ (val_ok hx)⟩
  simp only [convert,Sem.run_bind,qay h2,qay g2,Result.andThen_ok]
  cases d'<;>simp
 ·
  rename_i n hk
  obtain ⟨i',d,z,h1,h2,h3,h4,h5,_⟩:=qas hk (by simp)
  obtain rfl:=kind_string h4
  simp only [byteSl] at hside
  split at hside
  ·
   rename_i e sz hks
   obtain ⟨rfl,hke⟩:=hside
   obtain ⟨_,ds,_,_,g2,_,g4,_⟩:=qas hks (by simp)
   obtain ⟨rfl,_⟩:=qbj g4
   obtain ⟨_,de,_,_,f2,_,f4,_⟩:=qas hke (by simp)
   obtain rfl:=kind_int f4
   have hd:=hx.slice_inv
   cases hd with
   | slice _ b off cap sz g hsz hB hc hD hr =>
    have hc0:w.cell? ⟨b,off,none⟩=some (g 0 0):=hs.data _ _ _ (by simpa using hD 0 0 _ _ rfl rfl)
    have hv:g 0 0=.int .u8 n:=by
     have h0:DRel c.D (.val (.int .u8 n)) (g 0 0):=hr 0 0 _ _ rfl rfl
     generalize g 0 0=y at h0
     cases h0;rfl
    rw [hv] at hc0
    have hrun:=run_loadCells_list (P:=P) w ⟨b,off,none⟩ [.int .u8 n] (fun j v hj=>by
     cases j with
     | zero=>simp at hj;subst hj;simpa [addLit] using hc0
     | succ j=>simp at hj)
    refine ⟨.string ⟨#[UInt8.ofNat n.toNat]⟩,?_,.val _ (by simp [strOk,ByteArray.size])⟩
    simp only [List.length_singleton] at hrun
    simp only [convert,Sem.run_bind,qay h2,qay g2,qay f2,Result.andThen_ok,Conv.bytesToString,List.length_singleton,hrun]
    simp [ByteArray.push,ByteArray.empty,ByteArray.emptyWithCapacity]
    rfl
  · exact hside.elim
 · exact hside.elim
theorem noIface {d:TypeDesc} (h1:qbf P d≠.iface):∀ ms,d≠.interface ms:=fun ms h=>h1 (by rw [h];rfl)
theorem assert_ok {src dst:TypeId} {ok:Bool} {x:AV} {u:Value} (hx:Rel c x u) (hside:(aAssert P dst ok x).side):∃ r,(Instr.typeAssert u src dst ok).run P w=.ok r w∧Rel c (aAssert P dst ok x).val r:=by
 have tup:∀ (y:AV) (v:Value) (b:Bool),Rel c y v→Rel c (.tuple [y,.val (.bool b)]) (.tuple #[v,.bool b]):=fun y v b hy=>by
  refine .tuple _ _ rfl fun j z z' h1 h2=>?_
  match j with
  | 0=>simp at h1 h2;subst h1;subst h2;exact hy
  | 1=>simp at h1 h2;subst h1;subst h2;exact .val _
  | j+2=>simp at h1
 unfold aAssert at hside ⊢
 split at hside
 ·
  rename_i t v
  obtain ⟨v',rfl,hv⟩:∃ v',u=.iface t v'∧Rel c v v':=by
   cases hx with
   | data h=>cases h
   | iface _ _ v' h=>exact ⟨v',rfl,h⟩
  cases ht:t == dst with
  | true =>
   simp only [ht] at hside ⊢
   obtain ⟨i,d,z,h1,h2,h3,h4,_⟩:=qas (P:=P) (t:=dst) rfl hside.2
   have hd:=noIface (P:=P) (d:=d) (by rw [h4];exact hside.1)
   have he:t=dst:=by simpa using ht
   refine ⟨.tuple #[v',.bool true],?_,tup _ _ _ hv⟩
   cases d<;>first | (exact (hd _ rfl).elim) | simp [Instr.typeAssert,qay h2,he]
  | false =>
   simp only [ht] at hside ⊢
   split at hside
   ·
    rename_i z hz
    simp only [hz]
    obtain ⟨i,d,z',h1,h2,h3,h4,_⟩:=qas (P:=P) (t:=dst) rfl hside.2
    have hd:=noIface (P:=P) (d:=d) (by rw [h4];exact hside.1)
    have he:¬ t=dst:=by simpa using ht
    obtain ⟨zv,hzv,hzr⟩:=zeroAV_ok (P:=P) (w:=w) (c:=c) hz
    refine ⟨.tuple #[zv,.bool false],?_,tup _ _ _ hzr⟩
    cases d<;>first | (exact (hd _ rfl).elim) | simp [Instr.typeAssert,qay h2,he,hzv]
   · exact hside.elim
 ·
  rename_i t v
  obtain ⟨v',rfl,hv⟩:∃ v',u=.iface t v'∧Rel c v v':=by
   cases hx with
   | data h=>cases h
   | iface _ _ v' h=>exact ⟨v',rfl,h⟩
  obtain ⟨he,hk1,hk2⟩:=hside
  obtain ⟨i,d,z',h1,h2,h3,h4,_⟩:=qas (P:=P) (t:=dst) rfl hk2
  have hd:=noIface (P:=P) (d:=d) (by rw [h4];exact hk1)
  refine ⟨v',?_,hv⟩
  cases d<;>first | (exact (hd _ rfl).elim) | simp [Instr.typeAssert,qay h2,he]
 ·
  obtain rfl:=hx.val_inv
  split at hside
  ·
   rename_i z hz
   simp only [hz]
   obtain ⟨i,d,z',h1,h2,h3,h4,_⟩:=qas (P:=P) (t:=dst) rfl hside.2
   have hd:=noIface (P:=P) (d:=d) (by rw [h4];exact hside.1)
   obtain ⟨zv,hzv,hzr⟩:=zeroAV_ok (P:=P) (w:=w) (c:=c) hz
   refine ⟨.tuple #[zv,.bool false],?_,tup _ _ _ hzr⟩
   cases d<;>first | (exact (hd _ rfl).elim) | simp [Instr.typeAssert,qay h2,hzv]
  · exact hside.elim
 · exact hside.elim
theorem extract_ok {vs:List AV} {n:Nat} {u:Value} (hx:Rel c (.tuple vs) u) (hside:n<vs.length):∃ r,(Instr.extract u n).run P w=.ok r w∧Rel c (vs.getD n .top) r:=by
 cases hx with
 | data h=>cases h
 | tuple xs us hl hr =>
  have hlt:n<us.size:=by omega
  refine ⟨us[n],by simp [Instr.extract,hlt],hr n _ _ (by simp [List.getD,hside]) (by simp [hlt])⟩
end
end Go.Abs

namespace Go.Abs
def CellsR (c:Ctx) (xs:List AV) (vs:Array Value):Prop :=
 vs.size=xs.length∧∀ (j:Nat) (x:AV) (v:Value),xs[j]?=some x→vs[j]?=some v→Rel c x v∧v.oneCell'=true
theorem setAll_get (off:Nat):∀ (l:List Value) (s:Nat) (cs:Array Value),((l.zipIdx s).foldl (fun (cs:Array Value) (p:Value×Nat)=>cs.setIfInBounds (off+p.2) p.1) cs).size=cs.size ∧
  (off+s+l.length≤cs.size→∀ k,((l.zipIdx s).foldl (fun (cs:Array Value) (p:Value×Nat)=>cs.setIfInBounds (off+p.2) p.1) cs)[k]?=if off+s≤k∧k<off+s+l.length then l[k - (off+s)]? else cs[k]?)
 | [],s,cs=>⟨rfl,fun _ k=>by simp;intro h1 h2;omega⟩
 | v::l,s,cs=>by
  obtain ⟨h1,h2⟩:=setAll_get off l (s+1) (cs.setIfInBounds (off+s) v)
  refine ⟨by simpa using h1,fun hle k=>?_⟩
  simp only [List.length_cons] at hle
  have:=h2 (by simp;omega) k
  simp only [List.zipIdx_cons,List.foldl_cons]
  rw [this]
  by_cases hk:k=off+s
  ·
   subst hk
   rw [if_neg (by omega),if_pos (by simp)]
   have hlt:off+s<cs.size:=by omega
   simp [Array.getElem?_setIfInBounds,hlt]
  ·
   by_cases hk2:off+(s+1)≤k∧k<off+(s+1)+l.length
   ·
    rw [if_pos hk2,if_pos (by simp only [List.length_cons];omega),show k - (off+s)=(k - (off+(s+1)))+1 from by omega]
    simp
   · rw [if_neg hk2,if_neg (by simp only [List.length_cons];omega),Array.getElem?_setIfInBounds_ne (fun e=>hk e.symm)]
theorem fillOne {c:Ctx} {xs:List AV} {cs:Array Value} (hc:CellsR c xs cs) {x:AV} {v:Value} (hr:Rel c x v) (ho:x.cellsOk=true) {off:Nat} (hle:off+x.cells.length≤xs.length) :
  CellsR c (xs.take off++x.cells++xs.drop (off+x.cells.length)) (v.cells.zipIdx.foldl (fun (cs:Array Value) (p:Value×Nat)=>cs.setIfInBounds (off+p.2) p.1) cs):=by
 obtain ⟨hsz,hcell⟩:=hr.cells ho
 rw [← Array.foldl_toList,Array.toList_zipIdx]
 obtain ⟨h1,h2⟩:=setAll_get off v.cells.toList 0 cs
 have h2:=h2 (by simp;rw [hsz,hc.1];exact hle)
 refine ⟨by rw [h1,hc.1];simp;omega,fun j y u hy hu=>?_⟩
 rw [h2 j] at hu
 simp only [Nat.add_zero,Array.length_toList,hsz] at hu
 split at hu
 ·
  rename_i hj
  rw [List.append_assoc,List.getElem?_append_right (by simp;omega),List.getElem?_append_left (by simp;omega)] at hy
  have hmin:min off xs.length=off:=by omega
  simp only [List.length_take,hmin] at hy
  exact hcell _ y u hy (by simpa using hu)
 ·
  rename_i hj
  by_cases hlt:j<off
  ·
   rw [List.append_assoc,List.getElem?_append_left (by simp;omega),List.getElem?_take,if_pos hlt] at hy
   exact hc.2 j y u hy hu
  ·
   rw [List.getElem?_append_right (by simp;omega),List.getElem?_drop] at hy
   simp only [List.length_append,List.length_take] at hy
   rw [show off+x.cells.length+(j - (min off xs.length+x.cells.length))=j from by omega] at hy
   exact hc.2 j y u hy hu
theorem fill_ok {c:Ctx} {fs:List (Nat×Nat)} {place:Nat→Option (Nat×Nat)} (hp:∀ i,i<fs.length→place i=fs[i]?):∀ (ps:List (Nat×AV)) (qs:List (Nat×Value)) (xs ys:List AV) (cs:Array Value),
  ps.length=qs.length→(∀ (k:Nat) (p:Nat×AV) (q:Nat×Value),ps[k]?=some p→qs[k]?=some q→p.1=q.1∧Rel c p.2 q.2)→CellsR c xs cs→fillL fs ps xs=some ys →
  ∃ cs',Instr.fill place cs qs=some cs'∧CellsR c ys cs'
 | [],[],xs,ys,cs,_,_,hc,h=>by simp only [fillL,Option.some.injEq] at h;subst h;exact ⟨cs,rfl,hc⟩
 | [],_::_,_,_,_,hl,_,_,_=>by simp at hl
 | _::_,[],_,_,_,hl,_,_,_=>by simp at hl
 | (i,x)::ps,(i',v)::qs,xs,ys,cs,hl,hpq,hc,h=>by
  obtain ⟨he,hr⟩:=hpq 0 (i,x) (i',v) rfl rfl
  simp only at he hr
  subst he
  simp only [fillL] at h
  split at h
  ·
   rename_i o n hf
   split at h
   ·
    rename_i hcond
    obtain ⟨ho,rfl,hle⟩:=hcond
    have hsz:=(hr.cells ho).1
    obtain ⟨cs',h1,h2⟩:=fill_ok hp ps qs _ ys _ (by simpa using hl) (fun k p q hp hq=>hpq (k+1) p q (by simpa using hp) (by simpa using hq)) (fillOne hc hr ho hle) h
    refine ⟨cs',?_,h2⟩
    simp only [Instr.fill,hp i (List.getElem?_eq_some_iff.1 hf).1,hf]
    have hno:(decide (v.cells.size≠x.cells.length)||decide (o+v.cells.size > cs.size))=false:=by
     rw [hsz,hc.1];simp;omega
    rw [if_neg (by rw [hsz,hc.1];simp;omega)]
    exact h1
   · cases h
  · cases h
theorem zero_rel (c:Ctx) (v:Value):Rel c (liftC v) v:=by
 exact liftC_rel c v
theorem zero_cells (c:Ctx) {z:Value} (h:∀ v,v∈z.cells.toList→v.oneCell'=true):CellsR c (z.cells.toList.map liftC) z.cells :=
 ⟨by simp,fun j x v hx hv=>by
  simp only [List.getElem?_map,Option.map_eq_some_iff] at hx
  obtain ⟨u,hu,rfl⟩:=hx
  have:u=v:=by simpa [hv] using hu.symm
  subst this
  exact ⟨zero_rel c u,h u (List.mem_of_getElem? hu)⟩⟩
theorem run_mapM_list {P:Program} {α β:Type} {f:α→Sem β} {g:α→β} {w:World}:∀ (l:List α),(∀ x,x∈l→(f x).run P w=.ok (g x) w)→(l.mapM f).run P w=.ok (l.map g) w
 | [],_=>by simp
 | x::l,h=>by
  simp only [List.mapM_cons,Sem.run_bind,h x (by simp),Result.andThen_ok,run_mapM_list l (fun y hy=>h y (by simp [hy])),Sem.run_pure,List.map_cons]
theorem run_mapM_array {P:Program} {α β:Type} {f:α→Sem β} {g:α→β} {w:World} (l:Array α) (h:∀ x,x∈l.toList→(f x).run P w=.ok (g x) w):(l.mapM f).run P w=.ok (l.map g) w:=by
 rw [Array.mapM_eq_mapM_toList]
 simp only [Sem.run_map,run_mapM_list l.toList h,Result.andThen_ok]
 congr 1
 apply Array.ext'
 simp
section
variable {P:Program} {c:Ctx} {h:qaa} {w:World}
theorem build_ok {t:TypeId} {ps:List (Nat×AV)} {qs:Array (Nat×Value)} {ys:List AV} (hl:ps.length=qs.size)
  (hpq:∀ (k:Nat) (p:Nat×AV) (q:Nat×Value),ps[k]?=some p→qs[k]?=some q→p.1=q.1∧Rel c p.2 q.2) (hag:(qaf P t).agg=true) (hf:fillL (places P t) ps (qa0 P t)=some ys) :
  ∃ r,(Instr.build t qs).run P w=.ok r w∧Rel c (.agg ys) r:=by
 have hne:qaf P t≠.other:=fun e=>by simp [e,TK.agg] at hag
 obtain ⟨i,d,z,h1,h2,h3,h4,h5,h6,h7,h8⟩:=qas (P:=P) (t:=t) rfl hne
 rw [h6] at hf
 have hz:=zero_cells c h8
 have hzv:(zeroValue t).run P w=.ok z w:=by simp [zeroValue,run_typeInfo _ h1,h3]
 have fin:∀ (place:Nat→Option (Nat×Nat)),(∀ i,i<(places P t).length→place i=(places P t)[i]?)→∃ cs',Instr.fill place z.cells qs.toList=some cs'∧CellsR c ys cs':=fun place hp =>
  fill_ok hp ps qs.toList _ ys z.cells (by simpa using hl) (fun k p q hp hq=>hpq k p q hp (by simpa using hq)) hz hf
 have done:∀ cs',CellsR c ys cs'→Rel c (.agg ys) (.agg cs'):=fun cs' hcs=>.agg ys cs' hcs.1 (fun j v hv=>by
   have hlt:j<ys.length:=by rw [← hcs.1];exact (Array.getElem?_eq_some_iff.1 hv).1
   exact (hcs.2 j ys[j] v (by simp [hlt]) hv).2) fun j x v hx hv=>(hcs.2 j x v hx hv).1
 cases hk:qaf P t with
 | struct fs =>
  rw [hk] at h4
  obtain ⟨l,rfl,hall,rfl⟩:=kind_struct h4
  have hpl:places P t=l.toList.map fun f=>(f.offset,P.cellsOf f.type):=by simp [places,hk]
  obtain ⟨cs',hfill,hcs⟩:=fin (fun i=>(l.map fun f=>(f.offset,P.cellsOf f.type))[i]?) (fun i _=>by rw [hpl];simp)
  refine ⟨.agg cs',?_,done cs' hcs⟩
  have hm:(l.mapM fun f=>(do pure (f.offset,← sizeOf f.type):Sem (Nat×Nat))).run P w=.ok (l.map fun f=>(f.offset,P.cellsOf f.type)) w:=run_mapM_array l fun f hf'=>by
   obtain ⟨i',hi'⟩:=hall f hf'
   simp [qba hi',Program.cellsOf,hi']
  simp only [Instr.build,Sem.run_bind,hzv,qay h2,Result.andThen_ok,hm,hfill,Sem.run_pure]
 | array n e sz =>
  rw [hk] at h4
  obtain ⟨rfl,ie,hie,rfl⟩:=kind_array h4
  have hpl:places P t=(List.range n).map fun i=>(i * ie.size,ie.size):=by simp [places,hk]
  obtain ⟨cs',hfill,hcs⟩:=fin (fun i=>some (i * ie.size,ie.size)) (fun i hi=>by rw [hpl] at hi ⊢;simp at hi;simp [hi])
  refine ⟨.agg cs',?_,done cs' hcs⟩
  simp only [Instr.build,Sem.run_bind,hzv,qay h2,Result.andThen_ok,qba hie,hfill,Sem.run_pure]
 | _=>simp [hk,TK.agg] at hag
theorem fn_ok {f:Fn} {first caps:List AV} {us vs:Array Value} (h1:us.size=first.length) (h2:vs.size=caps.length)
  (h1':∀ (j:Nat) (x:AV) (v:Value),first[j]?=some x→us[j]?=some v→Rel c x v) (h2':∀ (j:Nat) (x:AV) (v:Value),caps[j]?=some x→vs[j]?=some v→Rel c x v):Rel c (.fn f first caps) (.func f us vs) :=
 .fn f first caps us vs h1 h2 h1' h2'
theorem relMap {g:Operand→AV} {ev:Operand→Value} {l:Array Operand} (hg:∀ x,x∈l.toList→Rel c (g x) (ev x)) :
  (l.map ev).size=(l.toList.map g).length∧∀ (j:Nat) (x:AV) (v:Value),(l.toList.map g)[j]?=some x→(l.map ev)[j]?=some v→Rel c x v :=
 ⟨by simp,fun j x v hx hv=>by
  simp only [List.getElem?_map,Option.map_eq_some_iff] at hx
  obtain ⟨o,ho,rfl⟩:=hx
  simp only [Array.getElem?_map,Option.map_eq_some_iff] at hv
  obtain ⟨o',ho',rfl⟩:=hv
  have:o=o':=by simpa [ho'] using ho.symm
  subst this
  exact hg o (List.mem_of_getElem? ho)⟩
end
end Go.Abs

namespace Go.Abs
theorem optRel {c:Ctx} {g:Operand→AV} {ev:Operand→Value} {x:Option Operand} (hg:∀ y,x=some y→Rel c (g y) (ev y)) :
  (∀ a,x.map g=some a→∃ v,x.map ev=some v∧Rel c a v)∧(x.map g=none→x.map ev=none):=by
 cases x with
 | none=>simp
 | some y=>simp;exact hg y rfl
theorem still_ok {P:Program} {c:Ctx} {h:qaa} {w:World} {o:Oper} {g:Operand→AV} {ev:Operand→Value} (hs:HSim c h w)
  (hg:∀ x,x∈o.op.operands.toList→Rel c (g x) (ev x)) (hside:(qa8 P g h o.op).side) :
  ∃ v,(execOp ev o).run P w=.ok (.value v) w∧Rel c (qa8 P g h o.op).val v:=by
 obtain ⟨dst,op,type,pos,after,guard⟩:=o
 simp only at hg hside ⊢
 cases op with
 | move x=>exact ⟨_,rfl,hg x (by simp [Op.operands])⟩
 | assign x=>exact ⟨_,rfl,hg x (by simp [Op.operands])⟩
 | build t parts =>
  simp only [qa8] at hside ⊢
  split at hside
  ·
   rename_i ys hf
   obtain ⟨r,hr,hrel⟩:=build_ok (P:=P) (c:=c) (w:=w) (t:=t) (ps:=parts.toList.map fun p=>(p.1,g p.2)) (qs:=parts.map fun p=>(p.1,ev p.2)) (ys:=ys) (by simp) (fun k p q hp hq=>by
    simp only [List.getElem?_map,Option.map_eq_some_iff] at hp
    obtain ⟨a,ha,rfl⟩:=hp
    simp only [Array.getElem?_map,Option.map_eq_some_iff] at hq
    obtain ⟨b,hb,rfl⟩:=hq
    have:a=b:=by simpa [hb] using ha.symm
    subst this
    exact ⟨rfl,hg a.2 (by simp only [Op.operands,List.toList_toArray,List.mem_map];exact ⟨a,List.mem_of_getElem? ha,rfl⟩)⟩) hside hf
   exact ⟨r,by simp [execOp,hr],hrel⟩
  · exact hside.elim
 | load t a =>
  obtain ⟨v,hv,hr⟩:=loadAt_ok (P:=P) (t:=t) hs (hg a (by simp [Op.operands])) hside
  exact ⟨v,by simp [execOp,hv],hr⟩
 | nilCheck x =>
  have hr:=hg x (by simp [Op.operands])
  simp only [qa8] at hside ⊢
  split at hside
  ·
   rename_i i o hx
   rw [hx] at hr
   obtain ⟨b,hb,h1⟩:=ptr_inv hr
   exact ⟨_,by simp [execOp,hb],.ptr i o b h1⟩
  ·
   rename_i cells hx
   rw [hx] at hr
   obtain ⟨b,o,hb,h1⟩:=eptr_cells hr
   exact ⟨_,by simp [execOp,hb],eptr_mk h1⟩
  ·
   rename_i i n sz r q hx
   rw [hx] at hr
   obtain ⟨b,o,len,cap,hb,h1⟩:=optr_inv hr
   exact ⟨_,by simp [execOp,hb],.optr _ _ _ _ _ b o len cap h1⟩
  ·
   rename_i f a cs hx
   rw [hx] at hr
   generalize hev:ev x=u at hr
   cases hr with
   | data h=>cases h
   | fn f ys xs us vs hl' hl h' h=>exact ⟨.func (.func f) us vs,by simp [execOp,hev],.fn _ _ _ us vs hl' hl h' h⟩
  · exact hside.elim
 | binOp op T x y T' =>
  obtain ⟨r,hr,hrel⟩:=bin_ok (P:=P) (w:=w) (xo:=x) (yo:=y) (hg x (by simp [Op.operands])) (hg y (by simp [Op.operands])) hside
  refine ⟨r,?_,hrel⟩
  simp only [execOp,Sem.run_bind]
  simp only [Sem.run_bind] at hr
  rw [hr]
  rfl
 | unOp op T x =>
  have hr:=hg x (by simp [Op.operands])
  cases op with
  | not =>
   simp only [qa8] at hside ⊢
   split at hside
   ·
    rename_i b hx
    rw [hx] at hr
    exact ⟨_,by simp [execOp,hr.val_inv,Op.unary],.val _⟩
   · exact hside.elim
  | neg =>
   simp only [qa8] at hside ⊢
   split at hside
   ·
    rename_i k n hx
    rw [hx] at hr
    exact ⟨_,by simp [execOp,hr.val_inv,Op.unary,Op.intArith],.val _⟩
   · exact hside.elim
  | _=>exact hside.elim
 | convert src dst x =>
  obtain ⟨r,hr,hrel⟩:=conv_ok (P:=P) (w:=w) hs (hg x (by simp [Op.operands])) hside
  exact ⟨r,by simp [execOp,hr],hrel⟩
 | makeInterface T x =>
  obtain ⟨h1,h2⟩:=hside
  obtain ⟨i,d,z,g1,g2,g3,g4,_⟩:=qas (P:=P) (t:=T) rfl h2
  refine ⟨.iface T (ev x),?_,.iface T _ _ (hg x (by simp [Op.operands]))⟩
  simp only [execOp,Instr.makeInterface,Sem.run_bind,qay g2,Result.andThen_ok]
  cases d<;>simp
  rename_i ms
  exact h1 (by rw [← g4];rfl)
 | makeFunc f first caps =>
  have h1:=relMap (c:=c) (g:=g) (ev:=ev) (l:=first) (fun x hx=>hg x (by simp [Op.operands] at hx ⊢;exact .inl hx))
  have h2:=relMap (c:=c) (g:=g) (ev:=ev) (l:=caps) (fun x hx=>hg x (by simp [Op.operands] at hx ⊢;exact .inr hx))
  exact ⟨_,by simp [execOp,Instr.makeFunc],fn_ok h1.1 h2.1 h1.2 h2.2⟩
 | fieldAddr s x f =>
  have hr:=hg x (by simp [Op.operands])
  simp only [qa8] at hside ⊢
  split at hside
  ·
   rename_i o n i off hf hx
   rw [hx] at hr
   obtain ⟨b,hb,h1⟩:=ptr_inv hr
   exact ⟨_,by simp [execOp,hb,fieldAt_run hf],.ptr _ _ b h1⟩
  ·
   rename_i o n cells hf hx
   rw [hx] at hr
   obtain ⟨b,off,hb,h1⟩:=eptr_cells hr
   refine ⟨.pointer (some ⟨b,off+o,none⟩),by simp [execOp,hb,fieldAt_run hf],eptr_mk fun j x hx=>?_⟩
   rw [List.getElem?_drop] at hx
   obtain ⟨u,hu,hd⟩:=h1 _ x hx
   exact ⟨u,by rw [Nat.add_assoc];exact hu,hd⟩
  ·
   rename_i o n i m sz r q hf hx
   rw [hx] at hr
   obtain ⟨b,o',len,cap,hb,h1⟩:=optr_inv hr
   refine ⟨.pointer (some ⟨b,o'+(r * sz+q)+o,none⟩),by simp [execOp,hb,fieldAt_run hf],?_⟩
   have:=Rel.optr (c:=c) i m sz r (q+o) b o' len cap h1
   rw [show o'+(r * sz+q)+o=o'+(r * sz+(q+o)) by omega]
   exact this
  · exact hside.elim
 | indexAddr T x i =>
  obtain ⟨r,hr,hrel⟩:=indexAddr_ok (P:=P) (w:=w) hs (norm_rel hs (hg x (by simp [Op.operands]))) (hg i (by simp [Op.operands])) hside
  exact ⟨r,by simp [execOp,hr],hrel⟩
 | index T x i =>
  obtain ⟨r,hr,hrel⟩:=index_ok (P:=P) (w:=w) (hg x (by simp [Op.operands])) (hg i (by simp [Op.operands])) hside
  exact ⟨r,by simp [execOp,hr],hrel⟩
 | lookup T x i ok =>
  obtain ⟨r,hr,hrel⟩:=lookup_ok (P:=P) (w:=w) hs (hg x (by simp [Op.operands])) (hg i (by simp [Op.operands])) hside
  exact ⟨r,by simp [execOp,hr],hrel⟩
 | typeAssert x src dst ok =>
  obtain ⟨r,hr,hrel⟩:=assert_ok (P:=P) (w:=w) (src:=src) (hg x (by simp [Op.operands])) hside
  exact ⟨r,by simp [execOp,hr],hrel⟩
 | extract x n =>
  have hr:=hg x (by simp [Op.operands])
  simp only [qa8] at hside ⊢
  split at hside
  ·
   rename_i vs hx
   rw [hx] at hr
   obtain ⟨r,h1,h2⟩:=extract_ok (P:=P) (w:=w) hr hside
   exact ⟨r,by simp [execOp,h1],h2⟩
  · exact hside.elim
 | slice T x lo hi mx =>
  have l1:=optRel (c:=c) (g:=g) (ev:=ev) (x:=lo) (fun y hy=>hg y (by simp [Op.operands,hy]))
  have l2:=optRel (c:=c) (g:=g) (ev:=ev) (x:=hi) (fun y hy=>hg y (by simp [Op.operands,hy]))
  have l3:=optRel (c:=c) (g:=g) (ev:=ev) (x:=mx) (fun y hy=>hg y (by simp [Op.operands,hy]))
  obtain ⟨r,hr,hrel⟩:=slice_ok (P:=P) (w:=w) (norm_rel hs (hg x (by simp [Op.operands]))) l1.1 l1.2 l2.1 l2.2 l3.2 hside
  exact ⟨r,by simp [execOp,hr],hrel⟩
 | call cl =>
  obtain ⟨callee,args,argTypes⟩:=cl
  cases callee with
  | value f=>exact hside.elim
  | invoke r m=>exact hside.elim
  | builtin b =>
   cases b with
   | len =>
    simp only [qa8] at hside ⊢
    split at hside
    ·
     rename_i x T hx hT
     obtain rfl:args = #[x]:=Array.ext' hx
     obtain rfl:argTypes = #[T]:=Array.ext' hT
     obtain ⟨r,hr,hrel⟩:=len_ok (P:=P) (w:=w) hs (norm_rel hs (hg x (by simp [Op.operands,Call.operands]))) hside type
     exact ⟨r,by simp [execOp,resolve,invoke,builtin,hr],hrel⟩
    · exact hside.elim
   | min =>
    simp only [qa8] at hside ⊢
    split at hside
    ·
     rename_i x y hx
     obtain rfl:args = #[x,y]:=Array.ext' hx
     obtain ⟨r,hr,hrel⟩:=min_ok (P:=P) (w:=w) (hg x (by simp [Op.operands,Call.operands])) (hg y (by simp [Op.operands,Call.operands])) hside argTypes type
     exact ⟨r,by simp [execOp,resolve,invoke,builtin,hr],hrel⟩
    · exact hside.elim
   | max =>
    simp only [qa8] at hside ⊢
    split at hside
    ·
     rename_i x y hx
     obtain rfl:args = #[x,y]:=Array.ext' hx
     obtain ⟨r,hr,hrel⟩:=max_ok (P:=P) (w:=w) (hg x (by simp [Op.operands,Call.operands])) (hg y (by simp [Op.operands,Call.operands])) hside argTypes type
     exact ⟨r,by simp [execOp,resolve,invoke,builtin,hr],hrel⟩
    · exact hside.elim
   | _=>exact hside.elim
 | _=>exact hside.elim
end Go.Abs



namespace Go.Abs
def AV.strip:AV→AV
 | .opt _ v=>v
 | v=>v
def AV.has (G:Bool):AV→Prop
 | .opt g _=>G=true→g=true
 | _=>True
def Env.getS (e:Env) (x:Operand):AV:=(e.get x).strip
def qax (e:Env) (G:Bool):List Operand→Prop
 | []=>True
 | x::l=>(e.get x).has G∧qax e G l
theorem haveAll_mem {e:Env} {G:Bool}:∀ {l:List Operand},qax e G l→∀ x,x∈l→(e.get x).has G
 | [],_,x,hx=>by cases hx
 | y::l,h,x,hx=>by
  cases hx with
  | head=>exact h.1
  | tail _ hx=>exact haveAll_mem h.2 x hx
theorem strip_rel {c:Ctx} {x:AV} {v:Value} (h:Rel c x v) (hh:x.has true):Rel c x.strip v:=by
 cases x with
 | opt g y =>
  cases h with
  | data h=>cases h
  | opt g x v h hn=>exact h (hh rfl)
 | _=>exact h
def gB (ds:List (Option Tmp)) (e:Env):Option (Nat×Bool)→Option Bool
 | none=>some true
 | some (j,want) =>
  match ds[j]? with
  | some (some t)=>match qa5 e.t t with
   | .val (.bool b)=>some (b == want)
   | .opt g (.val (.bool b))=>some (g&&(b == want))
   | .opt false _=>some false
   | _=>none
  | _=>none
def dstOk (N:Nat):Option Tmp→Prop
 | none=>True
 | some d=>d<N
def optV (g:Option (Nat×Bool)) (G:Bool) (v:AV):AV :=
 match g with
 | none=>v
 | some _=>.opt G v
def pickV (x y z:AV):AV :=
 match x.strip with
 | .val (.bool b)=>match y.strip,z.strip with
  | .val (.bool p),.val (.bool q)=>.val (.bool (bif b then p else q))
  | y',z'=>bif b then y' else z'
 | _=>.top
def pickOk (G:Bool) (x y z:AV):Prop :=
 G=true→match x.strip with
  | .val (.bool b)=>x.has true∧(b=true→y.has true)∧(b=false→z.has true)
  | _=>False
def AV.isIface:AV→Bool
 | .iface _ _=>true
 | _=>false
def AV.isInt:AV→Bool
 | .val (.int _ _)=>true
 | _=>false
def AV.isData:AV→Bool
 | .val v=>v.oneCell'
 | .slice _=>true
 | _=>false
def litRows (h:qaa) (sz:Nat):Nat→List (Nat×AV)→Option (List (List AV))
 | _,[]=>some []
 | k,(i,x)::l =>
  if i=k∧x.cellsOk=true∧x.cells.length=sz∧(qa4 h x.cells).all AV.isData=true then (litRows h sz (k+1) l).map ((qa4 h x.cells)::·) else none
def srcRows (h:qaa):AV→Option (List (List AV))
 | .slice rows=>some rows
 | .nils=>some []
 | .own i n=>match h[i]? with
  | some (.arr _ _ rows)=>if rows.length=n then some rows else none
  | _=>none
 | _=>none
def qan (P:Program) (t:TypeId):Nat:=match ti P t with | some x=>x.bytes | none=>0
def aAppend (P:Program) (T:TypeId) (s x:AV) (h:qaa) (K:AV→qaa→Prop):Prop :=
 match qaf P T,srcRows h x with
 | .slice e sz,some news =>
  RowsLen sz news∧0<sz∧qan P e≤2048∧qar P e=sz∧qaf P e≠.other ∧
  match s with
  | .nils=>news.length≤68719476736∧K (.own h.length news.length) (h++[.arr e sz news])
  | .own i n=>match h[i]? with
   | some (.arr e' sz' rows)=>e'=e∧sz'=sz∧rows.length=n∧rows.length+news.length≤68719476736∧K (.own i (n+news.length)) (h.set i (.arr e sz (rows++news)))
   | some (.uarr e' sz' rows)=>e'=e∧sz'=sz∧rows.length=n∧rows.length+news.length≤68719476736∧K (.own i (n+news.length)) (h.set i (.uarr e sz (rows++news)))
   | _=>False
  | _=>False
 | _,_=>False
def opEff (P:Program) (e:Env):Op→(AV→qaa→Prop)→(AV→qaa→Prop)→Prop
 | .box _ x,K,_=>qax e true [x]∧(e.getS x).cellsOk=true∧K (.ptr e.h.length 0) (e.h++[.cells (e.getS x).cells])
 | .alloc T,K,_=>qaf P T≠.other∧K (.ptr e.h.length 0) (e.h++[.cells (qa0 P T)])
 | .store T a x,K,_ =>
  qax e true [a,x] ∧
  match e.getS a with
  | .ptr i off=>match e.h[i]? with
   | some (.cells xs)=>(e.getS x).cellsOk=true∧(e.getS x).cells.length=qar P T∧qaf P T≠.other∧off+(e.getS x).cells.length≤xs.length ∧
     K .top (e.h.set i (.cells (xs.take off++(e.getS x).cells++xs.drop (off+(e.getS x).cells.length))))
   | _=>False
  | .optr i n sz r q=>match e.h[i]? with
   | some (.uarr t sz' rows)=>rows.length=n∧sz'=sz∧r<rows.length∧(e.getS x).cellsOk=true∧(qa4 e.h (e.getS x).cells).all AV.isData=true∧(e.getS x).cells.length=qar P T∧qaf P T≠.other∧q+(e.getS x).cells.length≤sz ∧
     K .top (e.h.set i (.uarr t sz (rows.set r ((rows.getD r []).take q++qa4 e.h (e.getS x).cells++(rows.getD r []).drop (q+(e.getS x).cells.length)))))
   | _=>False
  | _=>False
 | .buildSlice T n parts,K,_ =>
  match qaf P T with
  | .slice el sz=>match litRows e.h sz 0 (parts.toList.map fun p=>(p.1,e.getS p.2)) with
   | some rows=>qax e true (parts.toList.map (·.2))∧rows.length=n∧0<sz∧n * sz≤16777216∧qaf P el≠.other∧qar P el=sz∧K (.slice rows) e.h
   | none=>False
  | _=>False
 | .call { callee:=.value f,args,.. },K,Kp =>
  qax e true (f::args.toList) ∧
  match e.getS f with
  | .fn (.func fid) first caps=>ACalls P fid (qa4 e.h (first++args.toList.map e.getS++caps)) e.h fun r h'=>match r with
   | .ret v=>K v h'
   | .panic v=>Kp v h'
  | _=>False
 | .call { callee:=.builtin .append,args,argTypes },K,_ =>
  match args.toList,argTypes.toList with
  | [s,x],[T,T']=>qax e true [s,x]∧T'=T∧aAppend P T (e.getS s) (e.getS x) e.h K
  | _,_=>False
 | .range T x,K,_ =>
  qax e true [x] ∧
  match qaf P T,e.getS x with
  | .string,.val (.string s)=>K (.ptr e.h.length 0) (e.h++[.iter s 0])
  | _,_=>False
 | .next x true,K,_ =>
  qax e true [x] ∧
  match e.getS x with
  | .ptr i 0=>match e.h[i]? with
   | some (.iter s p) =>
    if p<s.size then K (.tuple [.val (.bool true),.val (.int .i64 p),.val (.int .i32 (Utf8.decode s p).1)]) (e.h.set i (.iter s (p+(Utf8.decode s p).2)))
    else K (.tuple [.val (.bool false)]) e.h
   | _=>False
  | _=>False
 | .panic x,_,Kp=>qax e true [x]∧(e.getS x).isIface=true∧Kp (e.getS x) e.h
 | .makeMap T r,K,_ =>
  match qaf P T with
  | .map _ _=>(match r with | none=>True | some x=>qax e true [x]∧(e.getS x).isInt=true)∧K (.mapr e.h.length) (e.h++[.map []])
  | _=>False
 | .mapUpdate T m key x,K,_ =>
  qax e true [m,key,x] ∧
  match qaf P T,e.getS m,e.getS key with
  | .map kt _,.mapr i,.val (.string s)=>match e.h[i]? with
   | some (.map es)=>match strKeys es with
    | some l=>qaf P kt=.string∧K .top (e.h.set i (.map (qch (kvSet l s (e.getS x)))))
    | none=>False
   | _=>False
  | _,_,_=>False
 | .call { callee:=.builtin .delete,args,argTypes },K,_ =>
  match args.toList,argTypes.toList with
  | [m,key],[T,_]=>qax e true [m,key] ∧
   match qaf P T,e.getS m,e.getS key with
   | .map kt _,.mapr i,.val (.string s)=>match e.h[i]? with
    | some (.map es)=>match strKeys es with
     | some l=>qaf P kt=.string∧K (.tuple []) (e.h.set i (.map (qch (kvDel l s))))
     | none=>False
    | _=>False
   | _,_,_=>False
  | _,_=>False
 | _,_,_=>False
def isEff:Op→Bool
 | .box .. | .alloc _ | .panic _ | .range .. | .next _ true | .store .. | .buildSlice .. | .makeMap .. | .mapUpdate .. | .call { callee:=.value _,.. } | .call { callee:=.builtin .append,.. } | .call { callee:=.builtin .delete,.. }=>true
 | _=>false
@[reducible] def GCall (P:Program) (fid:FuncId) (G:Bool) (pre:Prop) (args:List AV) (h:qaa) (K:AV→Prop) (KE:AEnd→qaa→Prop):Prop :=
 (∃ r,(G=true→pre∧APure P fid args r)∧K r)∨(G=true∧pre∧ACalls P fid args h KE)
def stepF (P:Program) (N:Nat) (Q:AExit→Env→Prop) (ds:List (Option Tmp)) (o:Oper) (e:Env) (K:Env→Prop):Prop :=
 match gB ds e o.guard with
 | none=>False
 | some G =>
  dstOk N o.dst ∧
  match o.op with
  | .pick x y z=>pickOk G (e.get x) (e.get y) (e.get z)∧K (e.put o.dst (optV o.guard G (pickV (e.get x) (e.get y) (e.get z))))
  | op =>
   match isEff op,o.guard with
   | false,g=>(G=true→qax e true op.operands.toList∧(qa8 P e.getS e.h op).side)∧K (e.put o.dst (optV g G (qa8 P e.getS e.h op).val))
   | true,none=>opEff P e op (fun v h'=>K (({ e with h:=h' }:Env).put o.dst v)) (fun v h'=>Q (.panic v) { e with h:=h' })
   | true,some _=>match op with
    | .call { callee:=.value f,args,.. }=>match e.getS f with
     | .fn (.func fid) first caps=>GCall P fid G (qax e true (f::args.toList)) (qa4 e.h (first++args.toList.map e.getS++caps)) e.h (fun r=>K (e.put o.dst (.opt G r))) fun r h'=>match r with
        | .ret v=>K (({ e with h:=h' }:Env).put o.dst (.opt true v))
        | .panic v=>Q (.panic v) { e with h:=h' }
     | _=>False
    | _=>False
def opsF (P:Program) (N:Nat) (Q:AExit→Env→Prop):List (Option Tmp)→List Oper→Env→Prop
 | _,[],e=>Q .normal e
 | ds,o::l,e=>stepF P N Q ds o e (opsF P N Q (ds++[o.dst]) l)
section
variable {P:Program} {E:Ent}
theorem wanted_eq {ops:Array Oper} {done:List Oper} {rest:List Oper} (hops:ops.toList=done++rest) {N:Nat} {c:Ctx} {e:Env} {a:Act} {w:World} (s:Sim N c e a w) {o:Oper} {G:Bool}
  (h:gB (done.map (·.dst)) e o.guard=some G):Region.wanted o (yielded ops a.tmps)=G:=by
 unfold gB at h
 unfold Region.wanted
 split at h
 · rename_i hg;simp only [hg];simpa using h
 ·
  rename_i j want hg
  simp only [hg]
  split at h
  ·
   rename_i t ht
   have hj:(ops[j]?).bind (·.dst)=some t:=by
    simp only [List.getElem?_map,Option.map_eq_some_iff] at ht
    obtain ⟨o',ho',hd⟩:=ht
    have:ops[j]?=some o':=by
     have h1:ops.toList[j]?=some o':=by
      rw [hops,List.getElem?_append_left (List.getElem?_eq_some_iff.1 ho').1];exact ho'
     simpa using h1
    simp [this,hd]
   have hr:=s.tmps t
   have hy:∀ b,a.tmps.getD t undef=.bool b→yielded ops a.tmps j=some b:=fun b hb=>by
    unfold yielded
    rw [hj]
    simp only [Option.bind_some]
    simp only [Array.getD_eq_getD_getElem?] at hb
    cases ht':a.tmps[t]? with
    | none=>rw [ht'] at hb;simp [undef] at hb
    | some v=>rw [ht'] at hb;simp at hb;subst hb;rfl
   split at h
   ·
    rename_i b hb
    rw [hb] at hr
    rw [hy b hr.val_inv]
    simp only [Option.some.injEq] at h
    rw [← h]
    cases b<;>cases want<;>rfl
   ·
    rename_i g b hb
    rw [hb] at hr
    simp only [Option.some.injEq] at h
    cases g with
    | true =>
     have hr':Rel c (.val (.bool b)) (a.tmps.getD t undef):=by
      cases hr with
      | data h=>cases h
      | opt g x v h hn=>exact h rfl
     rw [hy b hr'.val_inv,← h]
     cases b<;>cases want<;>rfl
    | false =>
     have hu:a.tmps.getD t undef=undef:=by
      cases hr with
      | data h=>cases h
      | opt g x v h hn=>exact hn rfl
     have:yielded ops a.tmps j=none:=by
      unfold yielded
      rw [hj]
      simp only [Option.bind_some]
      simp only [Array.getD_eq_getD_getElem?] at hu
      cases ht':a.tmps[t]? with
      | none=>rfl
      | some v=>rw [ht'] at hu;simp at hu;subst hu;rfl
     rw [this,← h]
     rfl
   ·
    rename_i x hnb hb
    rw [hb] at hr
    simp only [Option.some.injEq] at h
    have hu:a.tmps.getD t undef=undef:=by
     cases hr with
     | data h=>cases h
     | opt g x v h hn=>exact hn rfl
    have:yielded ops a.tmps j=none:=by
     unfold yielded
     rw [hj]
     simp only [Option.bind_some]
     simp only [Array.getD_eq_getD_getElem?] at hu
     cases ht':a.tmps[t]? with
     | none=>rfl
     | some v=>rw [ht'] at hu;simp at hu;subst hu;rfl
    rw [this,← h]
    rfl
   · cases h
  · cases h
theorem wpList_of {ops:Array Oper} {Q:Exit→Act→World→Prop} {o:Oper} {rest:List Oper} {a:Act} {w:World} {G:Bool} (hw:Region.wanted o (yielded ops a.tmps)=G)
  (h1:G=true→o.wp P a w (wpList P ops Q rest) Q) (h2:G=false→wpList P ops Q rest (a.put o.dst undef) w):wpList P ops Q (o::rest) a w:=by
 unfold wpList
 cases G with
 | true=>rw [if_pos hw];exact .inl (h1 rfl)
 | false=>rw [if_neg (by simp [hw])];exact h2 rfl
theorem qbu {o:Oper} {a:Act} {w w':World} {v:Value} {K:Act→World→Prop} {Q:Exit→Act→World→Prop} (hr:(execOp a.eval o).run P w=.ok (.value v) w') (h:K (a.put o.dst v) w'):o.wp P a w K Q:=by
 unfold Oper.wp
 rw [hr]
 exact h
theorem wp_skipV {o:Oper} {a:Act} {w w':World} {K:Act→World→Prop} {Q:Exit→Act→World→Prop} (hr:(execOp a.eval o).run P w=.ok .skip w') (h:K (a.put o.dst undef) w'):o.wp P a w K Q:=by
 unfold Oper.wp
 rw [hr]
 exact h
theorem dst_lt {N:Nat} {d:Option Tmp} (h:dstOk N d):∀ i,d=some i→i<N:=fun i hi=>by subst hi;exact h
theorem qbd {N:Nat} {c:Ctx} {e:Env} {a:Act} {w:World} (s:Sim N c e a w) {l:List Operand} (h:qax e true l):∀ x,x∈l→Rel c (e.getS x) (a.eval x) :=
 fun x hx=>strip_rel (s.eval x) (haveAll_mem h x hx)
theorem pick_rel {c:Ctx} {x y z:AV} {u v v':Value} (hx:Rel c x u) (hy:Rel c y v) (hz:Rel c z v') (h:pickOk true x y z):∃ b,u=.bool b∧Rel c (pickV x y z) (if b then v else v'):=by
 have h:=h rfl
 unfold pickV
 have sx:=fun hh=>strip_rel hx hh
 have sy:=fun hh=>strip_rel hy hh
 have sz:=fun hh=>strip_rel hz hh
 generalize x.strip=x' at *
 generalize y.strip=y' at *
 generalize z.strip=z' at *
 split at h
 ·
  rename_i b
  obtain ⟨h1,h2,h3⟩:=h
  refine ⟨b,(sx h1).val_inv,?_⟩
  split
  ·
   cases b with
   | true=>rw [(sy (h2 rfl)).val_inv];exact .val _
   | false=>rw [(sz (h3 rfl)).val_inv];exact .val _
  ·
   cases b with
   | true=>exact sy (h2 rfl)
   | false=>exact sz (h3 rfl)
 · exact h.elim
end
end Go.Abs
