/- Part 25 of a proof: CwR, CwS, CwT -/
import Derived.Test.YtbimdamecieomaaGreatDoorQ24
set_option linter.all false

namespace Go.Cw
open Go Go.Abs
def okX (v:V):Prop:=varOk v.k v.n v.s=true
def okW (v:V):Prop:=valOk v.k v.n v.s=true
def vM (s:MS):Prop:=(∀ p∈s.vars,okX p.2)∧∀ p∈s.own,okW p.2
structure vC (C:Cfg):Prop where
 st:∀ p∈C.state,okW p.v
 fmt:∀ n,i64 n→qbm (C.fmt n)=true
theorem okX_vI (n:Int):okX (vI n):=by simp [okX,varOk,valOk,vI]
theorem okX_vB (b:Bool):okX (vB b):=by cases b<;>simp [okX,varOk,vB]
theorem okX_vS {s:qac} (h:qbm s=true):okX (vS s):=by simp [okX,varOk,valOk,vS,h]
theorem okW_nil:okW V.nil:=by simp [okW,valOk,V.nil]
theorem okX_plain {v:V} (h:okX v) (hk:v.k=2):qbm v.s=true:=by
 unfold okX varOk valOk at h;simp [hk] at h;exact h.2
theorem okX_W {v:V} (h:okX v) (hk:v.k=1∨v.k=2):okW v:=by
 unfold okX varOk at h;rw [if_neg (by omega)] at h;simp only [Bool.and_eq_true] at h;exact h.2
theorem okW_X {v:V} (h:okW v) (hk:v.k≠0) (hk3:v.k≠3):okX v:=by
 unfold okX varOk;rw [if_neg hk3];have h:valOk v.k v.n v.s=true:=h;simp [hk,h]
theorem plain_app {a b:qac} (ha:qbm a=true) (hb:qbm b=true) (h:((a++b).size:Int)≤64):qbm (a++b)=true:=by
 unfold qbm at ha hb ⊢;simp only [Bool.and_eq_true,decide_eq_true_eq,allL_iff] at ha hb ⊢;refine ⟨fun x hx=>?_,h⟩;have:bl (a++b)=bl a++bl b:=by simp [bl]
 rw [this,List.mem_append] at hx;rcases hx with hx | hx
 · exact ha.1 x hx
 · exact hb.1 x hx
theorem plain_em:qbm em=true:=by decide
theorem okX_text {s:qac} {v:V} (hs:(s.size:Int)≤64→qbm s=true) (h:textS s=.ok v):okX v:=by
 unfold textS at h;split at h
 · cases h
 ·
  cases h;exact okX_vS (hs (by omega))
theorem okX_exact {r:Int×Int} {v:V} (h:qct r=.ok v):okX v:=by
 unfold qct at h;split at h
 · cases h;exact okX_vI _
 · split at h<;>cases h
theorem okX_bin {op:Int} {a b v:V} (ha:okX a) (hb:okX b) (h:binS op a b=.ok v):okX v:=by
 unfold binS at h;split at h
 ·
  split at h
  ·
   unfold arithS at h
   repeat' split at h
   all_goals exact okX_exact h
  · cases h
 split at h
 ·
  split at h<;>cases h;exact okX_vB _
 split at h
 ·
  split at h<;>cases h;exact okX_vB _
 split at h
 ·
  split at h
  ·
   rename_i hk;exact okX_text (fun hs=>plain_app (okX_plain ha hk.1) (okX_plain hb hk.2) hs) h
  · cases h
 ·
  unfold compS at h;split at h<;>cases h;exact okX_vB _
theorem okX_got {op:Int} {w v:V} (hop:op=22∨op=23∨op=24) (hw:okW w) (h:gotS op w=.ok v):okX v:=by
 unfold gotS at h;split at h
 · cases h;exact okX_vB _
 split at h
 · cases h;exact okX_vI _
 split at h
 · exact okX_text (fun _=>plain_em) h
 split at h
 · cases h
 ·
  cases h;exact okW_X hw (by omega) (by omega)
theorem okW_getP {l:List Pr} (h:∀ p∈l,okW p.v) (k:qac):okW (getP l k):=by
 induction l with
 | nil=>exact okW_nil
 | cons p l ih =>
  rw [getP];split
  · exact h p (by simp)
  · exact ih fun q hq=>h q (by simp [hq])
section
variable {C:Cfg} (hV:vC C)
include hV
theorem okW_fetch {k:qac} {s t:MS} {v:V} (hM:vM s) (h:qb9 C k s=(.ok v,t)):okW v:=by
 unfold qb9 at h;split at h
 · cases h
 split at h
 ·
  rename_i w hw;cases h;exact hM.2 _ (kGet_mem hw)
 split at h
 · cases h
 ·
  cases h;exact okW_getP hV.st k
theorem okX_op {op:Int} {l:List V} {s t:MS} {v:V} (hM:vM s) (hl:(l.length:Int)=arity op) (hx:∀ a∈l,okX a) (hr:∀ a∈l,rngV a) (h:opS C op l s=(.ok v,t)):okX v:=by
 have hy:∀ {x:EV} {u:MS},(x,u)=((.ok v,t):EV×MS)→x=.ok v:=fun h=>congrArg Prod.fst h;unfold opS at h;split at h
 ·
  rename_i a;have hop:op=9∨op=18∨op=20∨op=21∨op=22∨op=23∨op=24:=by
   unfold arity at hl;simp at hl;split at hl
   · omega
   split at hl
   · omega
   split at hl
   · omega
   · omega
  unfold unS at h;split at h
  ·
   have h:=hy h;split at h
   · exact okX_exact h
   · cases h
  split at h
  ·
   have h:=hy h;split at h<;>cases h;exact okX_vB _
  split at h
  ·
   have h:=hy h;split at h
   · exact okX_text (fun _=>hV.fmt _ (hr a (by simp)).1) h
   · cases h
  split at h
  ·
   have h:=hy h;split at h<;>cases h;exact okX_vI _
  split at h
  · cases h
  split at h
  · cases h
  ·
   rename_i hf;exact okX_got (by omega) (okW_fetch hV hM hf) (hy h)
 ·
  rename_i a b;exact okX_bin (hx a (by simp)) (hx b (by simp)) (hy h)
 · cases h
end
theorem vM_ev {s t:MS} {n:Nat} (h:EvOk s n t) (hM:vM s):vM t:=by rw [h.eq];exact hM
section
variable {C:Cfg} (hV:vC C) (hC:rngC C)
include hV hC
mutual
theorem okX_ev:∀ (e:Ex) (d:Nat) (s t:MS) (v:V),chkE e d=0→rngX e→vM s→rngM s→qb7 s.reads→evE C e s=(.ok v,t)→okX v
 | .mk op n x args,d,s,t,v,hc,hR,hM,hr,ha,h=>by
  have har:=chkE_arity hc;have hR':=(rngX_iff _).1 hR;simp only [Ex.args,Ex.op,Ex.n,Ex.s] at har hR';rw [chkE] at hc;by_cases hn:qdi op n x args.length d=0
  ·
   rw [if_pos hn] at hc;rw [evE] at h;split at h
   · cases h;exact okX_vI _
   split at h
   ·
    rename_i h2;cases h;refine okX_vS ?_;unfold qdi at hn;subst h2;cases hp:qbm x with
    | true=>rfl
    | false=>simp [hp] at hn
   split at h
   ·
    have h:=congrArg Prod.fst h;simp only at h;split at h
    ·
     rename_i w hw;cases h;exact hM.1 _ (kGet_mem hw)
    · cases h
   split at h
   · cases h
   ·
    rename_i l m' hL;have hE:=evL_ok hC args s hR'.2 hr ha;rw [hL] at hE;have hl:=okX_evL args (d+1) s m' l hc hR'.2 hM hr ha hL;exact okX_op hV (vM_ev hE.1 hM) (by rw [evL_len hL];exact har) hl (hE.2 l rfl) h
  ·
   rw [if_neg hn] at hc;exact (hn hc).elim
theorem okX_evL:∀ (l:List Ex) (d:Nat) (s t:MS) (r:List V),chkL l d=0→(∀ x∈l,rngX x)→vM s→rngM s→qb7 s.reads→evL C l s=(.ok r,t)→∀ v∈r,okX v
 | [],d,s,t,r,_,_,_,_,_,h=>by rw [evL] at h;cases h;simp
 | e::l,d,s,t,r,hc,hR,hM,hr,ha,h=>by
  rw [chkL] at hc;split at hc
  ·
   rename_i h0;rw [evL] at h;split at h
   · cases h
   ·
    rename_i v m' hE;have hE':=evE_ok hC e s (hR e (by simp)) hr ha;rw [hE] at hE';have hv:=okX_ev e d s m' v h0 (hR e (by simp)) hM hr ha hE;split at h
    · cases h
    ·
     rename_i r' m'' hL;cases h;have hl:=okX_evL l d m' _ r' hc (fun x hx=>hR x (by simp [hx])) (vM_ev hE'.1 hM) (hE'.1.rng hr) hE'.1.asc hL;intro w hw;rcases List.mem_cons.1 hw with rfl | hw
     · exact hv
     · exact hl w hw
  · contradiction
end
theorem vM_set {s:MS} {v:V} (k:qac) (hM:vM s) (hv:okX v):vM { s with vars:=qda s.vars k v }:=⟨fun p hp=>by
 rcases kSet_mem hp with rfl | hp
 · exact hv
 · exact hM.1 p hp,hM.2⟩
theorem vM_store {s t:MS} {k:qac} {v:V} {u:Unit} (hM:vM s) (hv:okW v) (h:qb8 C k v s=(.ok u,t)):vM t:=by
 unfold qb8 at h;split at h
 · cases h
 split at h
 · cases h
 ·
  cases h;refine ⟨hM.1,fun p hp=>?_⟩;rcases kSet_mem hp with rfl | hp
  · exact hv
  · exact hM.2 p hp
theorem vM_emit {s t:MS} {v:V} {u:Unit} (hM:vM s) (h:emitS v s=(.ok u,t)):vM t:=by
 unfold emitS at h;split at h
 · cases h
 · cases h;exact hM
theorem vM_tick {s t:MS} {u:Unit} (hM:vM s) (h:tickS s=(.ok u,t)):vM t:=by
 unfold tickS at h;split at h
 · cases h
 · cases h;exact hM
theorem vM_loop {body:MS→Except Stop Unit×MS} {name:qac} {b:Int} (hb:∀ s u t,Inv 8192 1 s→vM s→body s=(.ok u,t)→Inv 0 0 t∧vM t):∀ (f:Nat) (i:Int) (s:MS) (u:Unit) (t:MS),i64 i→Inv 0 0 s→vM s→qc5 body name b f i s=(.ok u,t)→vM t
 | 0,i,s,u,t,_,_,hM,h=>by rw [qc5] at h;cases h;exact hM
 | f+1,i,s,u,t,hi,hI,hM,h=>by
  rw [qc5] at h;split at h
  ·
   split at h
   · cases h
   ·
    rename_i m' hm;have hM1:=vM_tick hV hC hM hm;have h1:=(hI.tick hm).vars (rng_vI hi) name;have hM2:=vM_set hV hC name hM1 (okX_vI i);split at h
    · cases h
    ·
     rename_i m'' hm';have h2:=hb _ _ _ h1 hM2 hm';exact vM_loop hb f _ _ _ _ (i64_w _) h2.1 h2.2 h
  · cases h;exact hM
mutual
theorem vM_st:∀ (t:St) (d:Nat) (s:MS) (u:Unit) (s':MS),okS t d→goS t→Inv 8192 1 s→vM s→stI C t s=(.ok u,s')→vM s'
 | .mk op name mx a b body els,d,s,u,s',hO,hG,h,hM,g=>by
  have hG':=(goS_iff _).1 hG;have hO':=(okS_iff _ _).1 hO;have oA:=fun k=>okS_a hO k;have oB:=fun k=>okS_b hO k;simp only [St.op,St.a,St.b,St.body,St.els,St.max] at hG' hO' oA oB;obtain ⟨hA,hB,hbody,hels⟩:=hG';obtain ⟨_,obody,oels⟩:=hO';rw [stI] at g;split at g
  ·
   split at g
   · cases g
   ·
    rename_i v m' hm;have hE:=evE_ok hC a s (hA (by omega)).1 h.rng h.ar;rw [hm] at hE;have hv:=okX_ev hV hC a 1 s m' v (oA (by omega)) (hA (by omega)).1 hM h.rng h.ar hm;cases g;exact vM_set hV hC name (vM_ev hE.1 hM) hv
  split at g
  ·
   have h1:=h.eval hC (r:=4097) (hA (by omega));split at g
   · cases g
   ·
    rename_i k m' hm;have hE:=evE_ok hC a s (hA (by omega)).1 h.rng h.ar;rw [hm] at hE h1;have hM1:=vM_ev hE.1 hM;split at g
    · cases g
    ·
     rename_i v m'' hm';have hE2:=evE_ok hC b m' (hB (by omega)).1 h1.1.rng h1.1.ar;rw [hm'] at hE2;have hv:=okX_ev hV hC b 1 m' m'' v (oB (by omega)) (hB (by omega)).1 hM1 h1.1.rng h1.1.ar hm';split at g
     ·
      rename_i hk;exact vM_store hV hC (vM_ev hE2.1 hM1) (okX_W hv hk.2) g
     · cases g
  split at g
  ·
   split at g
   · cases g
   ·
    rename_i k m' hm;have hE:=evE_ok hC a s (hA (by omega)).1 h.rng h.ar;rw [hm] at hE;split at g
    · exact vM_store hV hC (vM_ev hE.1 hM) okW_nil g
    · cases g
  split at g
  ·
   have h1:=h.eval hC (r:=4097) (hA (by omega));split at g
   · cases g
   ·
    rename_i c m' hm;have hE:=evE_ok hC a s (hA (by omega)).1 h.rng h.ar;rw [hm] at hE h1;have hM1:=vM_ev hE.1 hM;split at g
    ·
     split at g
     · exact vM_blk body (d+1) _ _ _ obody hbody (h1.1.mono (by omega) (by omega)) hM1 g
     · exact vM_blk els (d+1) _ _ _ oels hels (h1.1.mono (by omega) (by omega)) hM1 g
    · cases g
  split at g
  ·
   have h1:=h.eval hC (r:=4097) (hA (by omega));split at g
   · cases g
   ·
    rename_i x m' hm;have hE:=evE_ok hC a s (hA (by omega)).1 h.rng h.ar;rw [hm] at hE h1;have hM1:=vM_ev hE.1 hM;have h2:=h1.1.eval hC (r:=2) (hB (by omega));split at g
    · cases g
    ·
     rename_i y m'' hm';have hE2:=evE_ok hC b m' (hB (by omega)).1 h1.1.rng h1.1.ar;rw [hm'] at hE2 h2;have hM2:=vM_ev hE2.1 hM1;split at g
     ·
      split at g
      · cases g
      · exact vM_loop hV hC (fun s u t hs hm hg=>⟨blkI_ok hC body s u t hbody (hs.mono (by omega) (by omega)) hg,vM_blk body (d+1) s u t obody hbody (hs.mono (by omega) (by omega)) hm hg⟩) _ _ _ _ _ (h1.2 _ rfl).1 (h2.1.mono (by omega) (by omega)) hM2 g
     · cases g
  split at g
  ·
   split at g
   · cases g
   ·
    rename_i v m' hm;have hE:=evE_ok hC a s (hA (by omega)).1 h.rng h.ar;rw [hm] at hE;split at g
    · exact vM_emit hV hC (vM_ev hE.1 hM) g
    · cases g
  split at g
  · cases g
  · cases g;exact hM
theorem vM_blk:∀ (l:List St) (d:Nat) (s:MS) (u:Unit) (s':MS),okL l d→(∀ x∈l,goS x)→Inv 0 0 s→vM s→qdq C l s=(.ok u,s')→vM s'
 | [],d,s,u,s',_,_,_,hM,g=>by rw [qdq] at g;cases g;exact hM
 | t::l,d,s,u,s',hO,hG,h,hM,g=>by
  rw [qdq] at g;split at g
  · cases g
  ·
   rename_i m' hm;split at g
   · cases g
   ·
    rename_i m'' hm';have hI:=h.tick hm;have hM1:=vM_tick hV hC hM hm;have hM2:=vM_st t d m' _ m'' (hO t (by simp)) (hG t (by simp)) hI hM1 hm';exact vM_blk l d m'' _ s' (fun x hx=>hO x (by simp [hx])) (fun x hx=>hG x (by simp [hx])) (stI_ok hC t _ _ _ (hG t (by simp)) hI hm') hM2 g
end
end
end Go.Cw

namespace Go.Cw
open Go Go.Abs
abbrev qco (l:List Pr):List qac:=l.map (·.key)
theorem ascP_iff:∀ (l:List Pr) (prev:Option qac),ascP prev l=true↔(∀ p∈l,qdz p.key=true)∧qb7 (qco l)∧∀ k,prev=some k→∀ p∈l,sLt k p.key=true
 | [],prev=>by simp [ascP]
 | p::l,prev=>by
  simp only [ascP,Bool.and_eq_true,ascP_iff l,List.mem_cons,qco,List.map_cons,List.pairwise_cons,List.mem_map];constructor
  ·
   rintro ⟨⟨h1,h2⟩,h3,h4,h5⟩;refine ⟨?_,⟨?_,h4⟩,?_⟩
   ·
    rintro q (rfl | hq)
    · exact h1
    · exact h3 q hq
   ·
    rintro x ⟨q,hq,rfl⟩;exact h5 _ rfl q hq
   ·
    rintro k rfl q (rfl | hq)
    · exact h2
    · exact qc9 h2 (h5 _ rfl q hq)
  ·
   rintro ⟨h1,⟨h2,h3⟩,h4⟩;refine ⟨⟨h1 p (.inl rfl),?_⟩,fun q hq=>h1 q (.inr hq),h3,?_⟩
   ·
    cases prev with
    | none=>rfl
    | some k=>exact h4 k rfl p (.inl rfl)
   ·
    rintro k hk q hq;cases hk;exact h2 _ ⟨q,hq,rfl⟩
theorem ascK_iff:∀ (l:List qac) (prev:Option qac),ascK prev l=true↔(∀ k∈l,qdz k=true)∧qb7 l∧∀ k,prev=some k→∀ x∈l,sLt k x=true
 | [],prev=>by simp [ascK]
 | p::l,prev=>by
  simp only [ascK,Bool.and_eq_true,ascK_iff l,List.mem_cons,List.pairwise_cons];constructor
  ·
   rintro ⟨⟨h1,h2⟩,h3,h4,h5⟩;refine ⟨?_,⟨?_,h4⟩,?_⟩
   ·
    rintro q (rfl | hq)
    · exact h1
    · exact h3 q hq
   ·
    intro x hx;exact h5 _ rfl x hx
   ·
    rintro k rfl q (rfl | hq)
    · exact h2
    · exact qc9 h2 (h5 _ rfl q hq)
  ·
   rintro ⟨h1,⟨h2,h3⟩,h4⟩;refine ⟨⟨h1 p (.inl rfl),?_⟩,fun q hq=>h1 q (.inr hq),h3,?_⟩
   ·
    cases prev with
    | none=>rfl
    | some k=>exact h4 k rfl p (.inl rfl)
   ·
    rintro k hk q hq;cases hk;exact h2 _ hq
theorem qcv (l:List Pr):qc1 l=true↔(∀ p∈l,okW p.v)∧(∀ p∈l,qdz p.key=true)∧qb7 (qco l):=by
 simp only [qc1,valsOk,Bool.and_eq_true,allL_iff,ascP_iff,okW];constructor
 · rintro ⟨h1,h2,h3,_⟩;exact ⟨h1,h2,h3⟩
 · rintro ⟨h1,h2,h3⟩;exact ⟨h1,h2,h3,fun k hk=>by cases hk⟩
theorem anyL_iff {α:Type} {p:α→Bool}:∀ {l:List α},anyL p l=true↔∃ x,x∈l∧p x=true
 | []=>by simp [anyL]
 | x::l=>by simp [anyL,anyL_iff (l:=l)]
theorem anyL_false {α:Type} {p:α→Bool} {l:List α}:anyL p l=false↔∀ x,x∈l→p x=false:=by
 cases h:anyL p l with
 | true =>
  obtain ⟨x,hx,hp⟩:=anyL_iff.1 h;simp only [Bool.true_eq_false,false_iff];intro k;rw [k x hx] at hp;cases hp
 | false =>
  simp only [true_iff];intro x hx;cases hp:p x with
  | false=>rfl
  | true=>rw [anyL_iff.2 ⟨x,hx,hp⟩] at h;cases h
theorem qcb (l:List Pr):qa3 l=true↔(∀ p∈l,okW p.v∧p.v.k≠0)∧(∀ p∈l,qdz p.key=true)∧qb7 (qco l):=by
 rw [← stateOkR_eq,stateOkR,Bool.and_eq_true,qcv,Bool.not_eq_true',anyL_false];simp only [decide_eq_false_iff_not];constructor
 · rintro ⟨h0,h1,h2,h3⟩;exact ⟨fun p hp=>⟨h1 p hp,h0 p hp⟩,h2,h3⟩
 · rintro ⟨h1,h2,h3⟩;exact ⟨fun p hp=>(h1 p hp).2,fun p hp=>(h1 p hp).1,h2,h3⟩
theorem hasP_iff {l:List Pr} {k:qac}:hasP l k=true↔k∈qco l:=by
 simp [hasP,anyL_iff,qco]
theorem hasP_false {l:List Pr} {k:qac}:hasP l k=false↔∀ p∈l,p.key≠k:=by
 simp [hasP,anyL_false]
theorem qb3 {l:List qac} {k:qac}:qc8 l k=true↔k∈l:=by
 simp [qc8,anyL_iff]
theorem okW_zero {v:V} (h:okW v) (hk:v.k=0):v=V.nil:=by
 obtain ⟨k,n,s⟩:=v;unfold okW valOk at h;simp only at hk;subst hk;simp at h;rw [h.1,h.2];rfl
theorem getP_out {l:List Pr} {k:qac} (h:∀ p∈l,p.key≠k):getP l k=V.nil:=by
 induction l with
 | nil=>rfl
 | cons p l ih =>
  rw [getP,if_neg (h p (by simp)),ih fun q hq=>h q (by simp [hq])]
theorem getP_in {l:List Pr} (ha:qb7 (qco l)) {p:Pr} (hp:p∈l):getP l p.key=p.v:=by
 induction l with
 | nil=>cases hp
 | cons q l ih =>
  obtain ⟨h1,h2⟩:=List.pairwise_cons.1 ha;rw [getP];rcases List.mem_cons.1 hp with rfl | hp
  · rw [if_pos rfl]
  ·
   have:=h1 p.key (List.mem_map_of_mem hp);rw [if_neg (sLt_ne this),ih h2 hp]
theorem getP_mem {l:List Pr} {k:qac} (h:getP l k≠V.nil):(⟨k,getP l k⟩:Pr)∈l:=by
 induction l with
 | nil=>exact (h rfl).elim
 | cons p l ih =>
  rw [getP] at h ⊢;split
  ·
   rename_i hk;subst hk;simp
  ·
   rename_i hk;rw [if_neg hk] at h;simp [ih h]
theorem posP_eq (k:qac) (l:List Pr):posP k l=qc0 k (qco l):=by
 induction l with
 | nil=>rfl
 | cons p l ih =>
  simp only [posP,qco,List.map_cons,qc0];rw [ih]
theorem withP_mem {l:List Pr} {p q:Pr}:q∈withP l p↔q=p∨q∈l:=by
 unfold withP;have e:=List.take_append_drop (posP p.key l) l;rw [List.mem_append,List.mem_cons];constructor
 ·
  rintro (h | h | h)
  · exact .inr (List.mem_of_mem_take h)
  · exact .inl h
  · exact .inr (List.mem_of_mem_drop h)
 ·
  rintro (h | h)
  · exact .inr (.inl h)
  ·
   rw [← e,List.mem_append] at h;rcases h with h | h
   · exact .inl h
   · exact .inr (.inr h)
theorem withP_keys {l:List Pr} {p:Pr} (h:∀ q∈l,q.key≠p.key):qco (withP l p)=withS (qco l) p.key:=by
 unfold withP withS;rw [posP_eq];rw [if_neg]
 · simp [qco,List.map_append,List.map_take,List.map_drop]
 ·
  intro hx;have:=List.mem_of_getElem? hx;obtain ⟨q,hq,he⟩:=List.mem_map.1 this;exact h q hq he
theorem withP_asc {l:List Pr} {p:Pr} (ha:qb7 (qco l)) (h:∀ q∈l,q.key≠p.key):qb7 (qco (withP l p)):=by
 rw [withP_keys h];exact withS_asc ha _
theorem addP_spec:∀ (w out:List Pr),qb7 (qco out)→qb7 (qco w)→(∀ q∈out,∀ p∈w,q.key≠p.key)→qb7 (qco (addP out w))∧∀ q,q∈addP out w↔q∈out∨(q∈w∧q.v.k≠0)
 | [],out,ha,_,_=>⟨ha,fun q=>by simp [addP]⟩
 | p::w,out,ha,hw,hd=>by
  obtain ⟨h1,h2⟩:=List.pairwise_cons.1 hw;rw [addP];split
  ·
   rename_i hk;obtain ⟨g1,g2⟩:=addP_spec w out ha h2 fun q hq r hr=>hd q hq r (by simp [hr]);refine ⟨g1,fun q=>?_⟩;rw [g2,List.mem_cons];constructor
   ·
    rintro (h | ⟨h,h'⟩)
    · exact .inl h
    · exact .inr ⟨.inr h,h'⟩
   ·
    rintro (h | ⟨rfl | h,h'⟩)
    · exact .inl h
    · exact (h' hk).elim
    · exact .inr ⟨h,h'⟩
  ·
   rename_i hk;have hne:∀ q∈out,q.key≠p.key:=fun q hq=>hd q hq p (by simp);obtain ⟨g1,g2⟩:=addP_spec w (withP out p) (withP_asc ha hne) h2 fun q hq r hr=>by
    rcases withP_mem.1 hq with rfl | hq
    · exact sLt_ne (h1 r.key (List.mem_map_of_mem hr))
    · exact hd q hq r (by simp [hr])
   refine ⟨g1,fun q=>?_⟩;rw [g2,List.mem_cons,withP_mem];constructor
   ·
    rintro ((rfl | h) | ⟨h,h'⟩)
    · exact .inr ⟨.inl rfl,hk⟩
    · exact .inl h
    · exact .inr ⟨.inr h,h'⟩
   ·
    rintro (h | ⟨rfl | h,h'⟩)
    · exact .inl (.inr h)
    · exact .inl (.inl rfl)
    · exact .inr ⟨h,h'⟩
theorem keepP_spec (w:List Pr):∀ (l:List Pr),(keepP w l).Sublist l∧∀ q,q∈keepP w l↔q∈l∧hasP w q.key=false
 | []=>⟨List.Sublist.refl _,fun q=>by simp [keepP]⟩
 | p::l=>by
  obtain ⟨h1,h2⟩:=keepP_spec w l;rw [keepP];split
  ·
   rename_i hp;refine ⟨h1.cons _,fun q=>?_⟩;rw [h2,List.mem_cons];constructor
   · rintro ⟨a,b⟩;exact ⟨.inr a,b⟩
   ·
    rintro ⟨rfl | a,b⟩
    · rw [hp] at b;cases b
    · exact ⟨a,b⟩
  ·
   rename_i hp;refine ⟨h1.cons_cons _,fun q=>?_⟩;rw [List.mem_cons,h2,List.mem_cons];constructor
   ·
    rintro (rfl | ⟨a,b⟩)
    · exact ⟨.inl rfl,by simpa using hp⟩
    · exact ⟨.inr a,b⟩
   ·
    rintro ⟨rfl | a,b⟩
    · exact .inl rfl
    · exact .inr ⟨a,b⟩
theorem applyP_spec {l w:List Pr} (hl:qb7 (qco l)) (hw:qb7 (qco w)):qb7 (qco (applyP l w))∧∀ q,q∈applyP l w↔(q∈l∧hasP w q.key=false)∨(q∈w∧q.v.k≠0):=by
 obtain ⟨h1,h2⟩:=keepP_spec w l;obtain ⟨g1,g2⟩:=addP_spec w (keepP w l) (hl.sublist (h1.map _)) hw fun q hq p hp=>by
  have:=((h2 q).1 hq).2;exact fun e=>hasP_false.1 this p hp e.symm
 refine ⟨g1,fun q=>?_⟩;rw [applyP,g2,h2]
theorem applyP_ok {l w:List Pr} (hl:qa3 l=true) (hw:qc1 w=true):qa3 (applyP l w)=true:=by
 obtain ⟨l1,l2,l3⟩:=(qcb l).1 hl;obtain ⟨w1,w2,w3⟩:=(qcv w).1 hw;obtain ⟨a1,a2⟩:=applyP_spec l3 w3;refine (qcb _).2 ⟨fun p hp=>?_,fun p hp=>?_,a1⟩
 ·
  rcases (a2 p).1 hp with ⟨h,_⟩ | ⟨h,hk⟩
  · exact l1 p h
  · exact ⟨w1 p h,hk⟩
 ·
  rcases (a2 p).1 hp with ⟨h,_⟩ | ⟨h,hk⟩
  · exact l2 p h
  · exact w2 p h
theorem getP_apply {l w:List Pr} (hl:qb7 (qco l)) (hw:qb7 (qco w)) (hv:∀ p∈w,okW p.v) (k:qac):getP (applyP l w) k=if hasP w k then getP w k else getP l k:=by
 obtain ⟨a1,a2⟩:=applyP_spec hl hw;split
 ·
  rename_i hk;obtain ⟨p,hp,rfl⟩:=List.mem_map.1 (hasP_iff.1 hk);rw [getP_in hw hp];by_cases h0:p.v.k=0
  ·
   rw [okW_zero (hv p hp) h0];refine getP_out fun q hq he=>?_;rcases (a2 q).1 hq with ⟨_,h⟩ | ⟨h,h'⟩
   · rw [he,hk] at h;cases h
   ·
    have e1:=getP_in hw h;have e2:=getP_in hw hp;rw [he,e2] at e1;exact h' (by rw [← e1,h0])
  · exact getP_in a1 ((a2 p).2 (.inr ⟨hp,h0⟩))
 ·
  rename_i hk;have hk:hasP w k=false:=by simpa using hk
  by_cases hg:getP l k=V.nil
  ·
   rw [hg];by_cases hn:getP (applyP l w) k=V.nil
   · exact hn
   ·
    have hm:=getP_mem hn;rcases (a2 _).1 hm with ⟨h,_⟩ | ⟨h,_⟩
    ·
     have:=getP_in hl h;simp only at this;rw [hg] at this;exact this.symm
    · exact (hasP_false.1 hk _ h rfl).elim
  ·
   have hm:=getP_mem hg;have:=getP_in a1 ((a2 _).2 (.inl ⟨hm,hk⟩));simpa using this
end Go.Cw

namespace Go.Cw
open Go Go.Abs
structure RunIn (fmt:Int→qac) (p:Proc) (args:List V) (st:List Pr):Prop where
 fmt:∀ n,i64 n→qbm (fmt n)=true
 body:∀ t∈p.body,rngS t
 args:∀ v∈args,rngV v
 st:∀ q∈st,rngV q.v
abbrev cfgR (fmt:Int→qac) (st:List Pr) (ft:Foot):Cfg:=⟨st,ft.all,ft.reads,ft.writes,fmt⟩
abbrev ms0 (p:Proc) (args:List V):MS:=⟨setArgs p.params args [],[],[],[],[],0⟩
def runOk (p:Proc) (args:List V) (st:List Pr) (ft:Foot):Prop:=¬ (qc7 p≠0∨argsErr p args≠0∨qa3 st=false∨qbi ft.all ft.reads ft.writes=false)
theorem qdu {fmt:Int→qac} {p:Proc} {args:List V} {st:List Pr} {ft:Foot} (h:¬ runOk p args st ft):runS fmt p args st ft=wrongE:=by
 unfold runS;exact if_pos (Decidable.not_not.1 h)
theorem qdt {fmt:Int→qac} {p:Proc} {args:List V} {st:List Pr} {ft:Foot} (h:runOk p args st ft):runS fmt p args st ft=doneS (qdq (cfgR fmt st ft) p.body (ms0 p args)):=by
 unfold runS;exact if_neg h
theorem qb2 (p:Proc) (args:List V) (st:List Pr) (ft:Foot):runOk p args st ft↔qc7 p=0∧argsErr p args=0∧qa3 st=true∧qbi ft.all ft.reads ft.writes=true:=by
 unfold runOk;simp only [not_or,Decidable.not_not,Bool.not_eq_false]
theorem setArgs_mem:∀ {ps:List Param} {vs:List V} {m:List (qac×V)} {q:qac×V},q∈setArgs ps vs m→q∈m∨q.2∈vs
 | [],vs,m,q,h=>by simp [setArgs] at h;exact .inl h
 | x::l,[],m,q,h=>by simp [setArgs] at h;exact .inl h
 | x::l,v::r,m,q,h=>by
  rw [setArgs] at h;rcases setArgs_mem h with h | h
  ·
   rcases kSet_mem h with rfl | h
   · exact .inr (by simp)
   · exact .inl h
  · exact .inr (by simp [h])
theorem done_reads (x:Except Stop Unit×MS):(doneS x).reads=x.2.reads:=by rcases x with ⟨z | u,m⟩<;>rfl
theorem done_puts (x:Except Stop Unit×MS):(doneS x).puts=x.2.puts:=by rcases x with ⟨z | u,m⟩<;>rfl
theorem done_steps (x:Except Stop Unit×MS):(doneS x).steps=x.2.steps:=by rcases x with ⟨z | u,m⟩<;>rfl
theorem cost_valid {p:Proc} (h:qc7 p=0):validP p=0:=by
 unfold qc7 at h;split at h
 · contradiction
 ·
  rename_i hd;simp only [Decidable.not_not] at hd;unfold detErr at hd;split at hd
  · contradiction
  ·
   rename_i ht;simp only [Decidable.not_not] at ht;unfold typeErr at ht;split at ht
   · contradiction
   ·
    rename_i hv;simpa using hv
theorem cost_okL {p:Proc} (h:qc7 p=0):okL p.body 1:=validP_ok (cost_valid h)
theorem cost_goS {p:Proc} (h:qc7 p=0) (hr:∀ t∈p.body,rngS t):∀ t∈p.body,goS t:=fun t ht=>goS_of t 1 (cost_okL h t ht) (hr t ht)
theorem cost_lim {p:Proc} (h:qc7 p=0):(cntB p.body).st≤16384∧(cntB p.body).ge≤64∧(cntB p.body).pu≤64∧(cntB p.body).em≤16:=by
 unfold qc7 at h;split at h
 · contradiction
 split at h
 · contradiction
 split at h
 · contradiction
 · omega
theorem cost_nL {p:Proc} (h:qc7 p=0):((nL p.body).st:Int)=(cntB p.body).st∧((nL p.body).ge:Int)=(cntB p.body).ge∧((nL p.body).pu:Int)=(cntB p.body).pu∧((nL p.body).em:Int)=(cntB p.body).em:=by
 have h1:=cost_lim h;have h2:=cntB_sat (cost_okL h);have hm:∀ n:Nat,mn n 16385≤16384→(n:Int)=mn n 16385:=fun n hn=>by unfold mn at hn ⊢;split<;>split at hn<;>omega
 rw [h2] at h1 ⊢;simp only [sat] at h1 ⊢;exact ⟨hm _ h1.1,hm _ (by omega),hm _ (by omega),hm _ (by omega)⟩
theorem args_ok {ps:List Param} {vs:List V} (h:argsOk ps vs=true) (hl:vs.length=ps.length):∀ v∈vs,okX v:=by
 induction ps generalizing vs with
 | nil=>intro v hv;rw [List.eq_nil_of_length_eq_zero hl] at hv;cases hv
 | cons x l ih =>
  cases vs with
  | nil=>simp
  | cons v r =>
   simp only [argsOk,Bool.and_eq_true] at h;intro w hw;rcases List.mem_cons.1 hw with rfl | hw
   ·
    have:=h.1;unfold argOk at this;unfold okX varOk valOk;simp only [Bool.or_eq_true,Bool.and_eq_true,decide_eq_true_eq] at this;rcases this with ⟨⟨h1,h2⟩,_⟩ | ⟨⟨⟨h1,h2⟩,h3⟩,_⟩
    · simp [h1,h2]
    · simp [h1,h2,h3]
   · exact ih h.2 (by simpa using hl) w hw
theorem argsErr_ok {p:Proc} {args:List V} (h:argsErr p args=0):args.length=p.params.length∧∀ v∈args,okX v:=by
 unfold argsErr at h;split at h
 · contradiction
 ·
  rename_i h1;split at h
  ·
   rename_i h2;have hl:args.length=p.params.length:=by
    by_cases hl:args.length=p.params.length
    · exact hl
    · exact (h1 (.inr hl)).elim
   exact ⟨hl,args_ok h2 hl⟩
  · contradiction
section
variable {fmt:Int→qac} {p:Proc} {args:List V} {st:List Pr} {ft:Foot}
theorem inv0 (hI:RunIn fmt p args st):Inv 0 0 (ms0 p args):=by
 refine ⟨⟨fun q hq=>?_,by simp⟩,by simp,by simp,by simp,by simp,by simp,by simp⟩;rcases setArgs_mem hq with h | h
 · cases h
 · exact hI.args _ h
theorem vM0 (h:argsErr p args=0):vM (ms0 p args):=by
 refine ⟨fun q hq=>?_,by simp⟩;rcases setArgs_mem hq with h1 | h1
 · cases h1
 · exact (argsErr_ok h).2 _ h1
theorem vC_of (hI:RunIn fmt p args st) (hs:qa3 st=true):vC (cfgR fmt st ft):=⟨fun q hq=>(((qcb st).1 hs).1 q hq).1,hI.fmt⟩
theorem fit_run (x:List St):Fit (cfgR fmt st ft) (ms0 p args) (qdq (cfgR fmt st ft) x (ms0 p args)).2:=keep_blk (fit_keeps _) x _
theorem stop_run {x:List St} {t:MS} {z:Stop} (h:qdq (cfgR fmt st ft) x (ms0 p args)=(.error z,t)):Stops (cfgR fmt st ft) z:=stop_blk x _ _ _ h
theorem run_reads {k:qac} (hk:k∈(runS fmt p args st ft).reads):qa3 st=true∧qdz k=true∧(ft.all=true∨qc8 ft.reads k=true):=by
 by_cases hr:runOk p args st ft
 ·
  rw [qdt hr,done_reads] at hk;rcases (fit_run p.body).rd k hk with h | h
  · cases h
  · exact ⟨((qb2 _ _ _ _).1 hr).2.2.1,h.1,h.2⟩
 · rw [qdu hr] at hk;cases hk
theorem run_puts {k:qac} (hk:k∈(runS fmt p args st ft).puts):qdz k=true∧(ft.all=true∨qc8 ft.writes k=true):=by
 by_cases hr:runOk p args st ft
 ·
  rw [qdt hr,done_puts] at hk;rcases (fit_run p.body).pt k hk with h | h
  · cases h
  · exact h
 · rw [qdu hr] at hk;cases hk
theorem run_asc:qb7 (runS fmt p args st ft).reads∧qb7 (runS fmt p args st ft).puts:=by
 by_cases hr:runOk p args st ft
 ·
  rw [qdt hr,done_reads,done_puts];exact ⟨(fit_run p.body).ar (by simp),(fit_run p.body).ap (by simp)⟩
 · rw [qdu hr];simp [wrongE]
theorem run_wrong (h:qc7 p≠0):runS fmt p args st ft=wrongE:=qdu fun h'=>h ((qb2 _ _ _ _).1 h').1
theorem run_bounds (hI:RunIn fmt p args st) (h:qc7 p=0):(runS fmt p args st ft).steps≤(cntB p.body).st∧((runS fmt p args st ft).reads.length:Int)≤(cntB p.body).ge∧((runS fmt p args st ft).puts.length:Int)≤(cntB p.body).pu∧((runS fmt p args st ft).out.length:Int)≤(cntB p.body).em:=by
 have hn:=cost_nL h;by_cases hr:runOk p args st ft
 ·
  rw [qdt hr,done_reads,done_puts,done_steps];have hd:=dl_blk (C:=cfgR fmt st ft) (fun q hq=>hI.st q hq) p.body 1 (ms0 p args) (cost_okL h) (cost_goS h hI.body) (inv0 hI);obtain ⟨d1,d2,d3,d4⟩:=hd;simp only [List.length_nil,Nat.zero_add] at d1 d2 d3 d4;refine ⟨by omega,by omega,by omega,?_⟩;rcases hx:qdq (cfgR fmt st ft) p.body (ms0 p args) with ⟨z | u,m⟩
  · simp only [doneS,List.length_nil];omega
  · rw [hx] at d4;simp only at d4;simp only [doneS];omega
 ·
  rw [qdu hr];simp only [wrongE,List.length_nil];omega
theorem run_else (h:(runS fmt p args st ft).status≠1):(runS fmt p args st ft).writes=[]∧(runS fmt p args st ft).out=[]∧((runS fmt p args st ft).status=2∨(runS fmt p args st ft).status=3∧(runS fmt p args st ft).code=0):=by
 by_cases hr:runOk p args st ft
 ·
  rw [qdt hr] at h ⊢;rcases hx:qdq (cfgR fmt st ft) p.body (ms0 p args) with ⟨z | u,m⟩
  ·
   refine ⟨rfl,rfl,?_⟩;rcases stop_run hx with ⟨c,rfl⟩ | ⟨k,rfl,_⟩
   · exact .inl rfl
   · exact .inr ⟨rfl,rfl⟩
  · rw [hx] at h;exact (h rfl).elim
 · rw [qdu hr];exact ⟨rfl,rfl,.inl rfl⟩
theorem run_commit (hI:RunIn fmt p args st) (h:(runS fmt p args st ft).status=1):(runS fmt p args st ft).writes.map (·.key)=(runS fmt p args st ft).puts∧(runS fmt p args st ft).code=0∧qc1 (runS fmt p args st ft).writes=true:=by
 by_cases hr:runOk p args st ft
 ·
  have hr':=(qb2 _ _ _ _).1 hr;have hasc:=(run_asc (fmt:=fmt) (p:=p) (args:=args) (st:=st) (ft:=ft)).2;have hput:=fun k hk=>(run_puts (fmt:=fmt) (p:=p) (args:=args) (st:=st) (ft:=ft) (k:=k) hk).1;rw [qdt hr] at h hasc hput ⊢;rcases hx:qdq (cfgR fmt st ft) p.body (ms0 p args) with ⟨z | u,m⟩
  ·
   rw [hx] at h;rcases stop_run hx with ⟨c,rfl⟩ | ⟨k,rfl,_⟩<;>simp [doneS,ab,rst] at h
  ·
   rw [hx] at hasc hput;have hvm:=vM_blk (vC_of hI hr'.2.2.1) (fun q hq=>hI.st q hq) p.body 1 (ms0 p args) u m (cost_okL hr'.1) (cost_goS hr'.1 hI.body) (inv0 hI) (vM0 hr'.2.1) hx;have hkeys:(doneS (.ok u,m)).writes.map (·.key)=(doneS (.ok u,m)).puts:=by simp [doneS,Function.comp_def]
   refine ⟨hkeys,rfl,(qcv _).2 ⟨fun q hq=>?_,fun q hq=>?_,?_⟩⟩
   ·
    obtain ⟨k,_,rfl⟩:=List.mem_map.1 hq;simp only;rcases hg:qcu m.own k with _ | w
    · exact okW_nil
    · exact hvm.2 _ (kGet_mem hg)
   · exact hput _ (by rw [← hkeys];exact List.mem_map_of_mem hq)
   ·
    show qb7 ((doneS (.ok u,m)).writes.map (·.key))
    rw [hkeys];exact hasc
 · rw [qdu hr] at h;simp [wrongE] at h
end
end Go.Cw
