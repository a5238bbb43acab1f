/- Part 25 of a proof: CwR, CwS, CwT, CwX, CwY, CwZ -/
import Derived.Test.YtilhejdbiionhaaGreatDoorQ24
set_option linter.all false

namespace Go.Cw
open Go Go.Abs
def okX (v:V):Prop:=varOk v.k v.n v.s=true
def okW (v:V):Prop:=valOk v.k v.n v.s=true
def vM (s:MS):Prop:=(∀ p∈s.vars,okX p.2)∧∀ p∈s.own,okW p.2
structure vC (C:Cfg):Prop where
 st:∀ p∈C.state,okW p.v
 fmt:∀ n,i64 n→qbe (C.fmt n)=true
theorem okX_vI (n:Int):okX (vI n):=by simp [okX,varOk,valOk,vI]
theorem okX_vB (b:Bool):okX (vB b):=by cases b<;>simp [okX,varOk,vB]
theorem okX_vS {s:qab} (h:qbe s=true):okX (vS s):=by simp [okX,varOk,valOk,vS,h]
theorem okW_nil:okW V.nil:=by simp [okW,valOk,V.nil]
theorem okX_plain {v:V} (h:okX v) (hk:v.k=2):qbe v.s=true:=by
 unfold okX varOk valOk at h;simp [hk] at h;exact h.2
theorem okX_W {v:V} (h:okX v) (hk:v.k=1∨v.k=2):okW v:=by
 unfold okX varOk at h;rw [if_neg (by omega)] at h;simp only [Bool.and_eq_true] at h;exact h.2
theorem okW_X {v:V} (h:okW v) (hk:v.k≠0) (hk3:v.k≠3):okX v:=by
 unfold okX varOk;rw [if_neg hk3];have h:valOk v.k v.n v.s=true:=h;simp [hk,h]
theorem plain_app {a b:qab} (ha:qbe a=true) (hb:qbe b=true) (h:((a++b).size:Int)≤64):qbe (a++b)=true:=by
 unfold qbe at ha hb ⊢;simp only [Bool.and_eq_true,decide_eq_true_eq,allL_iff] at ha hb ⊢;refine ⟨fun x hx=>?_,h⟩;have:bl (a++b)=bl a++bl b:=by simp [bl]
 rw [this,List.mem_append] at hx;rcases hx with hx | hx
 · exact ha.1 x hx
 · exact hb.1 x hx
theorem plain_em:qbe em=true:=by decide
theorem okX_text {s:qab} {v:V} (hs:(s.size:Int)≤64→qbe s=true) (h:textS s=.ok v):okX v:=by
 unfold textS at h;split at h
 · cases h
 ·
  cases h;exact okX_vS (hs (by omega))
theorem okX_exact {r:Int×Int} {v:V} (h:qce r=.ok v):okX v:=by
 unfold qce at h;split at h
 · cases h;exact okX_vI _
 · split at h<;>cases h
theorem okX_bin {op:Int} {a b v:V} (ha:okX a) (hb:okX b) (h:binS op a b=.ok v):okX v:=by
 unfold binS at h;split at h
 ·
  split at h
  ·
   unfold qd6 at h
   repeat' split at h
   all_goals exact okX_exact h
  · cases h
 split at h
 ·
  split at h<;>cases h;exact okX_vB _
 split at h
 ·
  split at h<;>cases h;exact okX_vB _
 split at h
 ·
  split at h
  ·
   rename_i hk;exact okX_text (fun hs=>plain_app (okX_plain ha hk.1) (okX_plain hb hk.2) hs) h
  · cases h
 ·
  unfold compS at h;split at h<;>cases h;exact okX_vB _
theorem okX_got {op:Int} {w v:V} (hop:op=22∨op=23∨op=24) (hw:okW w) (h:gotS op w=.ok v):okX v:=by
 unfold gotS at h;split at h
 · cases h;exact okX_vB _
 split at h
 · cases h;exact okX_vI _
 split at h
 · exact okX_text (fun _=>plain_em) h
 split at h
 · cases h
 ·
  cases h;exact okW_X hw (by omega) (by omega)
theorem okW_getP {l:List Pr} (h:∀ p∈l,okW p.v) (k:qab):okW (getP l k):=by
 induction l with
 | nil=>exact okW_nil
 | cons p l ih =>
  rw [getP];split
  · exact h p (by simp)
  · exact ih fun q hq=>h q (by simp [hq])
section
variable {C:Cfg} (hV:vC C)
include hV
theorem okW_fetch {k:qab} {s t:MS} {v:V} (hM:vM s) (h:qbr C k s=(.ok v,t)):okW v:=by
 unfold qbr at h;split at h
 · cases h
 split at h
 ·
  rename_i w hw;cases h;exact hM.2 _ (kGet_mem hw)
 split at h
 · cases h
 ·
  cases h;exact okW_getP hV.st k
theorem okX_op {op:Int} {l:List V} {s t:MS} {v:V} (hM:vM s) (hl:(l.length:Int)=qcp op) (hx:∀ a∈l,okX a) (hr:∀ a∈l,qdx a) (h:opS C op l s=(.ok v,t)):okX v:=by
 have hy:∀ {x:EV} {u:MS},(x,u)=((.ok v,t):EV×MS)→x=.ok v:=fun h=>congrArg Prod.fst h;unfold opS at h;split at h
 ·
  rename_i a;have hop:op=9∨op=18∨op=20∨op=21∨op=22∨op=23∨op=24:=by
   unfold qcp at hl;simp at hl;split at hl
   · omega
   split at hl
   · omega
   split at hl
   · omega
   · omega
  unfold unS at h;split at h
  ·
   have h:=hy h;split at h
   · exact okX_exact h
   · cases h
  split at h
  ·
   have h:=hy h;split at h<;>cases h;exact okX_vB _
  split at h
  ·
   have h:=hy h;split at h
   · exact okX_text (fun _=>hV.fmt _ (hr a (by simp)).1) h
   · cases h
  split at h
  ·
   have h:=hy h;split at h<;>cases h;exact okX_vI _
  split at h
  · cases h
  split at h
  · cases h
  ·
   rename_i hf;exact okX_got (by omega) (okW_fetch hV hM hf) (hy h)
 ·
  rename_i a b;exact okX_bin (hx a (by simp)) (hx b (by simp)) (hy h)
 · cases h
end
theorem vM_ev {s t:MS} {n:Nat} (h:EvOk s n t) (hM:vM s):vM t:=by rw [h.eq];exact hM
section
variable {C:Cfg} (hV:vC C) (hC:rngC C)
include hV hC
mutual
theorem okX_ev:∀ (e:Ex) (d:Nat) (s t:MS) (v:V),chkE e d=0→rngX e→vM s→rngM s→ascS s.reads→evE C e s=(.ok v,t)→okX v
 | .mk op n x args,d,s,t,v,hc,hR,hM,hr,ha,h=>by
  have har:=chkE_arity hc;have hR':=(qdh _).1 hR;simp only [Ex.args,Ex.op,Ex.n,Ex.s] at har hR';rw [chkE] at hc;by_cases hn:qck op n x args.length d=0
  ·
   rw [if_pos hn] at hc;rw [evE] at h;split at h
   · cases h;exact okX_vI _
   split at h
   ·
    rename_i h2;cases h;refine okX_vS ?_;unfold qck at hn;subst h2;cases hp:qbe x with
    | true=>rfl
    | false=>simp [hp] at hn
   split at h
   ·
    have h:=congrArg Prod.fst h;simp only at h;split at h
    ·
     rename_i w hw;cases h;exact hM.1 _ (kGet_mem hw)
    · cases h
   split at h
   · cases h
   ·
    rename_i l m' hL;have hE:=evL_ok hC args s hR'.2 hr ha;rw [hL] at hE;have hl:=okX_evL args (d+1) s m' l hc hR'.2 hM hr ha hL;exact okX_op hV (vM_ev hE.1 hM) (by rw [evL_len hL];exact har) hl (hE.2 l rfl) h
  ·
   rw [if_neg hn] at hc;exact (hn hc).elim
theorem okX_evL:∀ (l:List Ex) (d:Nat) (s t:MS) (r:List V),chkL l d=0→(∀ x∈l,rngX x)→vM s→rngM s→ascS s.reads→evL C l s=(.ok r,t)→∀ v∈r,okX v
 | [],d,s,t,r,_,_,_,_,_,h=>by rw [evL] at h;cases h;simp
 | e::l,d,s,t,r,hc,hR,hM,hr,ha,h=>by
  rw [chkL] at hc;split at hc
  ·
   rename_i h0;rw [evL] at h;split at h
   · cases h
   ·
    rename_i v m' hE;have hE':=evE_ok hC e s (hR e (by simp)) hr ha;rw [hE] at hE';have hv:=okX_ev e d s m' v h0 (hR e (by simp)) hM hr ha hE;split at h
    · cases h
    ·
     rename_i r' m'' hL;cases h;have hl:=okX_evL l d m' _ r' hc (fun x hx=>hR x (by simp [hx])) (vM_ev hE'.1 hM) (hE'.1.rng hr) hE'.1.asc hL;intro w hw;rcases List.mem_cons.1 hw with rfl | hw
     · exact hv
     · exact hl w hw
  · contradiction
end
theorem vM_set {s:MS} {v:V} (k:qab) (hM:vM s) (hv:okX v):vM { s with vars:=qbk s.vars k v }:=⟨fun p hp=>by
 rcases kSet_mem hp with rfl | hp
 · exact hv
 · exact hM.1 p hp,hM.2⟩
theorem vM_store {s t:MS} {k:qab} {v:V} {u:Unit} (hM:vM s) (hv:okW v) (h:qbi C k v s=(.ok u,t)):vM t:=by
 unfold qbi at h;split at h
 · cases h
 split at h
 · cases h
 ·
  cases h;refine ⟨hM.1,fun p hp=>?_⟩;rcases kSet_mem hp with rfl | hp
  · exact hv
  · exact hM.2 p hp
theorem vM_emit {s t:MS} {v:V} {u:Unit} (hM:vM s) (h:emitS v s=(.ok u,t)):vM t:=by
 unfold emitS at h;split at h
 · cases h
 · cases h;exact hM
theorem vM_tick {s t:MS} {u:Unit} (hM:vM s) (h:qc2 s=(.ok u,t)):vM t:=by
 unfold qc2 at h;split at h
 · cases h
 · cases h;exact hM
theorem vM_loop {body:MS→Except Stop Unit×MS} {name:qab} {b:Int} (hb:∀ s u t,Inv 8192 1 s→vM s→body s=(.ok u,t)→Inv 0 0 t∧vM t):∀ (f:Nat) (i:Int) (s:MS) (u:Unit) (t:MS),i64 i→Inv 0 0 s→vM s→qcd body name b f i s=(.ok u,t)→vM t
 | 0,i,s,u,t,_,_,hM,h=>by rw [qcd] at h;cases h;exact hM
 | f+1,i,s,u,t,hi,hI,hM,h=>by
  rw [qcd] at h;split at h
  ·
   split at h
   · cases h
   ·
    rename_i m' hm;have hM1:=vM_tick hV hC hM hm;have h1:=(hI.tick hm).vars (rng_vI hi) name;have hM2:=vM_set hV hC name hM1 (okX_vI i);split at h
    · cases h
    ·
     rename_i m'' hm';have h2:=hb _ _ _ h1 hM2 hm';exact vM_loop hb f _ _ _ _ (i64_w _) h2.1 h2.2 h
  · cases h;exact hM
mutual
theorem vM_st:∀ (t:St) (d:Nat) (s:MS) (u:Unit) (s':MS),okS t d→goS t→Inv 8192 1 s→vM s→stI C t s=(.ok u,s')→vM s'
 | .mk op name mx a b body els,d,s,u,s',hO,hG,h,hM,g=>by
  have hG':=(goS_iff _).1 hG;have hO':=(qdk _ _).1 hO;have oA:=fun k=>okS_a hO k;have oB:=fun k=>okS_b hO k;simp only [St.op,St.a,St.b,St.body,St.els,St.max] at hG' hO' oA oB;obtain ⟨hA,hB,hbody,hels⟩:=hG';obtain ⟨_,obody,oels⟩:=hO';rw [stI] at g;split at g
  ·
   split at g
   · cases g
   ·
    rename_i v m' hm;have hE:=evE_ok hC a s (hA (by omega)).1 h.rng h.ar;rw [hm] at hE;have hv:=okX_ev hV hC a 1 s m' v (oA (by omega)) (hA (by omega)).1 hM h.rng h.ar hm;cases g;exact vM_set hV hC name (vM_ev hE.1 hM) hv
  split at g
  ·
   have h1:=h.eval hC (r:=4097) (hA (by omega));split at g
   · cases g
   ·
    rename_i k m' hm;have hE:=evE_ok hC a s (hA (by omega)).1 h.rng h.ar;rw [hm] at hE h1;have hM1:=vM_ev hE.1 hM;split at g
    · cases g
    ·
     rename_i v m'' hm';have hE2:=evE_ok hC b m' (hB (by omega)).1 h1.1.rng h1.1.ar;rw [hm'] at hE2;have hv:=okX_ev hV hC b 1 m' m'' v (oB (by omega)) (hB (by omega)).1 hM1 h1.1.rng h1.1.ar hm';split at g
     ·
      rename_i hk;exact vM_store hV hC (vM_ev hE2.1 hM1) (okX_W hv hk.2) g
     · cases g
  split at g
  ·
   split at g
   · cases g
   ·
    rename_i k m' hm;have hE:=evE_ok hC a s (hA (by omega)).1 h.rng h.ar;rw [hm] at hE;split at g
    · exact vM_store hV hC (vM_ev hE.1 hM) okW_nil g
    · cases g
  split at g
  ·
   have h1:=h.eval hC (r:=4097) (hA (by omega));split at g
   · cases g
   ·
    rename_i c m' hm;have hE:=evE_ok hC a s (hA (by omega)).1 h.rng h.ar;rw [hm] at hE h1;have hM1:=vM_ev hE.1 hM;split at g
    ·
     split at g
     · exact vM_blk body (d+1) _ _ _ obody hbody (h1.1.mono (by omega) (by omega)) hM1 g
     · exact vM_blk els (d+1) _ _ _ oels hels (h1.1.mono (by omega) (by omega)) hM1 g
    · cases g
  split at g
  ·
   have h1:=h.eval hC (r:=4097) (hA (by omega));split at g
   · cases g
   ·
    rename_i x m' hm;have hE:=evE_ok hC a s (hA (by omega)).1 h.rng h.ar;rw [hm] at hE h1;have hM1:=vM_ev hE.1 hM;have h2:=h1.1.eval hC (r:=2) (hB (by omega));split at g
    · cases g
    ·
     rename_i y m'' hm';have hE2:=evE_ok hC b m' (hB (by omega)).1 h1.1.rng h1.1.ar;rw [hm'] at hE2 h2;have hM2:=vM_ev hE2.1 hM1;split at g
     ·
      split at g
      · cases g
      · exact vM_loop hV hC (fun s u t hs hm hg=>⟨blkI_ok hC body s u t hbody (hs.mono (by omega) (by omega)) hg,vM_blk body (d+1) s u t obody hbody (hs.mono (by omega) (by omega)) hm hg⟩) _ _ _ _ _ (h1.2 _ rfl).1 (h2.1.mono (by omega) (by omega)) hM2 g
     · cases g
  split at g
  ·
   split at g
   · cases g
   ·
    rename_i v m' hm;have hE:=evE_ok hC a s (hA (by omega)).1 h.rng h.ar;rw [hm] at hE;split at g
    · exact vM_emit hV hC (vM_ev hE.1 hM) g
    · cases g
  split at g
  · cases g
  · cases g;exact hM
theorem vM_blk:∀ (l:List St) (d:Nat) (s:MS) (u:Unit) (s':MS),okL l d→(∀ x∈l,goS x)→Inv 0 0 s→vM s→qcu C l s=(.ok u,s')→vM s'
 | [],d,s,u,s',_,_,_,hM,g=>by rw [qcu] at g;cases g;exact hM
 | t::l,d,s,u,s',hO,hG,h,hM,g=>by
  rw [qcu] at g;split at g
  · cases g
  ·
   rename_i m' hm;split at g
   · cases g
   ·
    rename_i m'' hm';have hI:=h.tick hm;have hM1:=vM_tick hV hC hM hm;have hM2:=vM_st t d m' _ m'' (hO t (by simp)) (hG t (by simp)) hI hM1 hm';exact vM_blk l d m'' _ s' (fun x hx=>hO x (by simp [hx])) (fun x hx=>hG x (by simp [hx])) (stI_ok hC t _ _ _ (hG t (by simp)) hI hm') hM2 g
end
end
end Go.Cw

namespace Go.Cw
open Go Go.Abs
abbrev keysP (l:List Pr):List qab:=l.map (·.key)
theorem ascP_iff:∀ (l:List Pr) (prev:Option qab),ascP prev l=true↔(∀ p∈l,qdt p.key=true)∧ascS (keysP l)∧∀ k,prev=some k→∀ p∈l,sLt k p.key=true
 | [],prev=>by simp [ascP]
 | p::l,prev=>by
  simp only [ascP,Bool.and_eq_true,ascP_iff l,List.mem_cons,keysP,List.map_cons,List.pairwise_cons,List.mem_map];constructor
  ·
   rintro ⟨⟨h1,h2⟩,h3,h4,h5⟩;refine ⟨?_,⟨?_,h4⟩,?_⟩
   ·
    rintro q (rfl | hq)
    · exact h1
    · exact h3 q hq
   ·
    rintro x ⟨q,hq,rfl⟩;exact h5 _ rfl q hq
   ·
    rintro k rfl q (rfl | hq)
    · exact h2
    · exact sLt_trans h2 (h5 _ rfl q hq)
  ·
   rintro ⟨h1,⟨h2,h3⟩,h4⟩;refine ⟨⟨h1 p (.inl rfl),?_⟩,fun q hq=>h1 q (.inr hq),h3,?_⟩
   ·
    cases prev with
    | none=>rfl
    | some k=>exact h4 k rfl p (.inl rfl)
   ·
    rintro k hk q hq;cases hk;exact h2 _ ⟨q,hq,rfl⟩
theorem ascK_iff:∀ (l:List qab) (prev:Option qab),ascK prev l=true↔(∀ k∈l,qdt k=true)∧ascS l∧∀ k,prev=some k→∀ x∈l,sLt k x=true
 | [],prev=>by simp [ascK]
 | p::l,prev=>by
  simp only [ascK,Bool.and_eq_true,ascK_iff l,List.mem_cons,List.pairwise_cons];constructor
  ·
   rintro ⟨⟨h1,h2⟩,h3,h4,h5⟩;refine ⟨?_,⟨?_,h4⟩,?_⟩
   ·
    rintro q (rfl | hq)
    · exact h1
    · exact h3 q hq
   ·
    intro x hx;exact h5 _ rfl x hx
   ·
    rintro k rfl q (rfl | hq)
    · exact h2
    · exact sLt_trans h2 (h5 _ rfl q hq)
  ·
   rintro ⟨h1,⟨h2,h3⟩,h4⟩;refine ⟨⟨h1 p (.inl rfl),?_⟩,fun q hq=>h1 q (.inr hq),h3,?_⟩
   ·
    cases prev with
    | none=>rfl
    | some k=>exact h4 k rfl p (.inl rfl)
   ·
    rintro k hk q hq;cases hk;exact h2 _ hq
theorem writesOk_iff (l:List Pr):writesOk l=true↔(∀ p∈l,okW p.v)∧(∀ p∈l,qdt p.key=true)∧ascS (keysP l):=by
 simp only [writesOk,valsOk,Bool.and_eq_true,allL_iff,ascP_iff,okW];constructor
 · rintro ⟨h1,h2,h3,_⟩;exact ⟨h1,h2,h3⟩
 · rintro ⟨h1,h2,h3⟩;exact ⟨h1,h2,h3,fun k hk=>by cases hk⟩
theorem anyL_iff {α:Type} {p:α→Bool}:∀ {l:List α},anyL p l=true↔∃ x,x∈l∧p x=true
 | []=>by simp [anyL]
 | x::l=>by simp [anyL,anyL_iff (l:=l)]
theorem anyL_false {α:Type} {p:α→Bool} {l:List α}:anyL p l=false↔∀ x,x∈l→p x=false:=by
 cases h:anyL p l with
 | true =>
  obtain ⟨x,hx,hp⟩:=anyL_iff.1 h;simp only [Bool.true_eq_false,false_iff];intro k;rw [k x hx] at hp;cases hp
 | false =>
  simp only [true_iff];intro x hx;cases hp:p x with
  | false=>rfl
  | true=>rw [anyL_iff.2 ⟨x,hx,hp⟩] at h;cases h
theorem stateOk_iff (l:List Pr):qbd l=true↔(∀ p∈l,okW p.v∧p.v.k≠0)∧(∀ p∈l,qdt p.key=true)∧ascS (keysP l):=by
 rw [← stateOkR_eq,stateOkR,Bool.and_eq_true,writesOk_iff,Bool.not_eq_true',anyL_false];simp only [decide_eq_false_iff_not];constructor
 · rintro ⟨h0,h1,h2,h3⟩;exact ⟨fun p hp=>⟨h1 p hp,h0 p hp⟩,h2,h3⟩
 · rintro ⟨h1,h2,h3⟩;exact ⟨fun p hp=>(h1 p hp).2,fun p hp=>(h1 p hp).1,h2,h3⟩
theorem hasP_iff {l:List Pr} {k:qab}:hasP l k=true↔k∈keysP l:=by
 simp [hasP,anyL_iff,keysP]
theorem hasK_iff {l:List qab} {k:qab}:hasK l k=true↔k∈l:=by
 simp [hasK,anyL_iff]
end Go.Cw

namespace Go.Cw
open Go Go.Abs
structure RunIn (fmt:Int→qab) (p:Proc) (args:List V) (st:List Pr):Prop where
 fmt:∀ n,i64 n→qbe (fmt n)=true
 body:∀ t∈p.body,rngS t
 args:∀ v∈args,qdx v
 st:∀ q∈st,qdx q.v
abbrev cfgR (fmt:Int→qab) (st:List Pr) (ft:Foot):Cfg:=⟨st,ft.all,ft.reads,ft.writes,fmt⟩
abbrev ms0 (p:Proc) (args:List V):MS:=⟨qcj p.params args [],[],[],[],[],0⟩
def runOk (p:Proc) (args:List V) (st:List Pr) (ft:Foot):Prop:=¬ (qbx p≠0∨qcq p args≠0∨qbd st=false∨qdb ft.all ft.reads ft.writes=false)
theorem runS_no {fmt:Int→qab} {p:Proc} {args:List V} {st:List Pr} {ft:Foot} (h:¬ runOk p args st ft):runS fmt p args st ft=wrongE:=by
 unfold runS;exact if_pos (Decidable.not_not.1 h)
theorem qco {fmt:Int→qab} {p:Proc} {args:List V} {st:List Pr} {ft:Foot} (h:runOk p args st ft):runS fmt p args st ft=doneS (qcu (cfgR fmt st ft) p.body (ms0 p args)):=by
 unfold runS;exact if_neg h
theorem qb9 (p:Proc) (args:List V) (st:List Pr) (ft:Foot):runOk p args st ft↔qbx p=0∧qcq p args=0∧qbd st=true∧qdb ft.all ft.reads ft.writes=true:=by
 unfold runOk;simp only [not_or,Decidable.not_not,Bool.not_eq_false]
theorem setArgs_mem:∀ {ps:List Param} {vs:List V} {m:List (qab×V)} {q:qab×V},q∈qcj ps vs m→q∈m∨q.2∈vs
 | [],vs,m,q,h=>by simp [qcj] at h;exact .inl h
 | x::l,[],m,q,h=>by simp [qcj] at h;exact .inl h
 | x::l,v::r,m,q,h=>by
  rw [qcj] at h;rcases setArgs_mem h with h | h
  ·
   rcases kSet_mem h with rfl | h
   · exact .inr (by simp)
   · exact .inl h
  · exact .inr (by simp [h])
theorem done_reads (x:Except Stop Unit×MS):(doneS x).reads=x.2.reads:=by rcases x with ⟨z | u,m⟩<;>rfl
theorem done_puts (x:Except Stop Unit×MS):(doneS x).puts=x.2.puts:=by rcases x with ⟨z | u,m⟩<;>rfl
theorem done_steps (x:Except Stop Unit×MS):(doneS x).steps=x.2.steps:=by rcases x with ⟨z | u,m⟩<;>rfl
theorem cost_valid {p:Proc} (h:qbx p=0):validP p=0:=by
 unfold qbx at h;split at h
 · contradiction
 ·
  rename_i hd;simp only [Decidable.not_not] at hd;unfold detErr at hd;split at hd
  · contradiction
  ·
   rename_i ht;simp only [Decidable.not_not] at ht;unfold typeErr at ht;split at ht
   · contradiction
   ·
    rename_i hv;simpa using hv
theorem cost_okL {p:Proc} (h:qbx p=0):okL p.body 1:=validP_ok (cost_valid h)
theorem cost_goS {p:Proc} (h:qbx p=0) (hr:∀ t∈p.body,rngS t):∀ t∈p.body,goS t:=fun t ht=>goS_of t 1 (cost_okL h t ht) (hr t ht)
theorem cost_lim {p:Proc} (h:qbx p=0):(cntB p.body).st≤16384∧(cntB p.body).ge≤64∧(cntB p.body).pu≤64∧(cntB p.body).em≤16:=by
 unfold qbx at h;split at h
 · contradiction
 split at h
 · contradiction
 split at h
 · contradiction
 · omega
theorem cost_det {p:Proc} (h:qbx p=0):detErr p=0:=by
 unfold qbx at h;split at h
 · contradiction
 ·
  rename_i hd;simpa using hd
theorem cost_nL {p:Proc} (h:qbx p=0):((nL p.body).st:Int)=(cntB p.body).st∧((nL p.body).ge:Int)=(cntB p.body).ge∧((nL p.body).pu:Int)=(cntB p.body).pu∧((nL p.body).em:Int)=(cntB p.body).em:=by
 have h1:=cost_lim h;have h2:=cntB_sat (cost_okL h);have hm:∀ n:Nat,mn n 16385≤16384→(n:Int)=mn n 16385:=fun n hn=>by unfold mn at hn ⊢;split<;>split at hn<;>omega
 rw [h2] at h1 ⊢;simp only [sat] at h1 ⊢;exact ⟨hm _ h1.1,hm _ (by omega),hm _ (by omega),hm _ (by omega)⟩
theorem args_ok {ps:List Param} {vs:List V} (h:argsOk ps vs=true) (hl:vs.length=ps.length):∀ v∈vs,okX v:=by
 induction ps generalizing vs with
 | nil=>intro v hv;rw [List.eq_nil_of_length_eq_zero hl] at hv;cases hv
 | cons x l ih =>
  cases vs with
  | nil=>simp
  | cons v r =>
   simp only [argsOk,Bool.and_eq_true] at h;intro w hw;rcases List.mem_cons.1 hw with rfl | hw
   ·
    have:=h.1;unfold argOk at this;unfold okX varOk valOk;simp only [Bool.or_eq_true,Bool.and_eq_true,decide_eq_true_eq] at this;rcases this with ⟨⟨h1,h2⟩,_⟩ | ⟨⟨⟨h1,h2⟩,h3⟩,_⟩
    · simp [h1,h2]
    · simp [h1,h2,h3]
   · exact ih h.2 (by simpa using hl) w hw
theorem argsErr_ok {p:Proc} {args:List V} (h:qcq p args=0):args.length=p.params.length∧∀ v∈args,okX v:=by
 unfold qcq at h;split at h
 · contradiction
 ·
  rename_i h1;split at h
  ·
   rename_i h2;have hl:args.length=p.params.length:=by
    by_cases hl:args.length=p.params.length
    · exact hl
    · exact (h1 (.inr hl)).elim
   exact ⟨hl,args_ok h2 hl⟩
  · contradiction
section
variable {fmt:Int→qab} {p:Proc} {args:List V} {st:List Pr} {ft:Foot}
theorem inv0 (hI:RunIn fmt p args st):Inv 0 0 (ms0 p args):=by
 refine ⟨⟨fun q hq=>?_,by simp⟩,by simp,by simp,by simp,by simp,by simp,by simp⟩;rcases setArgs_mem hq with h | h
 · cases h
 · exact hI.args _ h
theorem vM0 (h:qcq p args=0):vM (ms0 p args):=by
 refine ⟨fun q hq=>?_,by simp⟩;rcases setArgs_mem hq with h1 | h1
 · cases h1
 · exact (argsErr_ok h).2 _ h1
theorem vC_of (hI:RunIn fmt p args st) (hs:qbd st=true):vC (cfgR fmt st ft):=⟨fun q hq=>(((stateOk_iff st).1 hs).1 q hq).1,hI.fmt⟩
theorem fit_run (x:List St):Fit (cfgR fmt st ft) (ms0 p args) (qcu (cfgR fmt st ft) x (ms0 p args)).2:=keep_blk (fit_keeps _) x _
theorem run_code (ha:qbd st=false):(runS fmt p args st ft).code=1009:=by
 rw [runS_no]
 · rfl
 ·
  intro h;have:=((qb9 _ _ _ _).1 h).2.2.1;rw [ha] at this;cases this
theorem stop_run {x:List St} {t:MS} {z:Stop} (h:qcu (cfgR fmt st ft) x (ms0 p args)=(.error z,t)):Stops (cfgR fmt st ft) z:=stop_blk x _ _ _ h
theorem run_all (h:ft.all=true):(runS fmt p args st ft).status≠3:=by
 by_cases hr:runOk p args st ft
 ·
  rw [qco hr];rcases hx:qcu (cfgR fmt st ft) p.body (ms0 p args) with ⟨z | u,m⟩
  ·
   rcases stop_run hx with ⟨c,rfl⟩ | ⟨k,rfl,ha,_⟩
   · simp [doneS,ab]
   · simp only [h] at ha;cases ha
  · simp [doneS]
 · rw [runS_no hr];decide
theorem run_reads {k:qab} (hk:k∈(runS fmt p args st ft).reads):qbd st=true∧qdt k=true∧(ft.all=true∨hasK ft.reads k=true):=by
 by_cases hr:runOk p args st ft
 ·
  rw [qco hr,done_reads] at hk;rcases (fit_run p.body).rd k hk with h | h
  · cases h
  · exact ⟨((qb9 _ _ _ _).1 hr).2.2.1,h.1,h.2⟩
 · rw [runS_no hr] at hk;cases hk
theorem run_puts {k:qab} (hk:k∈(runS fmt p args st ft).puts):qdt k=true∧(ft.all=true∨hasK ft.writes k=true):=by
 by_cases hr:runOk p args st ft
 ·
  rw [qco hr,done_puts] at hk;rcases (fit_run p.body).pt k hk with h | h
  · cases h
  · exact h
 · rw [runS_no hr] at hk;cases hk
theorem run_asc:ascS (runS fmt p args st ft).reads∧ascS (runS fmt p args st ft).puts:=by
 by_cases hr:runOk p args st ft
 ·
  rw [qco hr,done_reads,done_puts];exact ⟨(fit_run p.body).ar (by simp),(fit_run p.body).ap (by simp)⟩
 · rw [runS_no hr];simp [wrongE]
theorem footOk_all:qdb true [] []=true:=by decide
theorem run_miss (h:(runS fmt p args st ft).status≠3):(runS fmt p args st ft).miss=em:=by
 by_cases hr:runOk p args st ft
 ·
  rw [qco hr] at h ⊢;rcases hx:qcu (cfgR fmt st ft) p.body (ms0 p args) with ⟨z | u,m⟩
  ·
   rw [hx] at h;rcases stop_run hx with ⟨c,rfl⟩ | ⟨k,rfl,ha,hk,hn⟩
   · rfl
   · exact (h rfl).elim
  · rfl
 · rw [runS_no hr];rfl
theorem run_bounds (hI:RunIn fmt p args st) (h:qbx p=0):(runS fmt p args st ft).steps≤(cntB p.body).st∧((runS fmt p args st ft).reads.length:Int)≤(cntB p.body).ge∧((runS fmt p args st ft).puts.length:Int)≤(cntB p.body).pu∧((runS fmt p args st ft).out.length:Int)≤(cntB p.body).em:=by
 have hn:=cost_nL h;by_cases hr:runOk p args st ft
 ·
  rw [qco hr,done_reads,done_puts,done_steps];have hd:=dl_blk (C:=cfgR fmt st ft) (fun q hq=>hI.st q hq) p.body 1 (ms0 p args) (cost_okL h) (cost_goS h hI.body) (inv0 hI);obtain ⟨d1,d2,d3,d4⟩:=hd;simp only [List.length_nil,Nat.zero_add] at d1 d2 d3 d4;refine ⟨by omega,by omega,by omega,?_⟩;rcases hx:qcu (cfgR fmt st ft) p.body (ms0 p args) with ⟨z | u,m⟩
  · simp only [doneS,List.length_nil];omega
  · rw [hx] at d4;simp only at d4;simp only [doneS];omega
 ·
  rw [runS_no hr];simp only [wrongE,List.length_nil];omega
end
end Go.Cw

namespace Go.Cw
open Go Go.Abs
structure RM where
 vars:List Pr
 own:List Pr
 st:Int
 code:Int
 out:List V
 reads:List qab
 puts:List qab
 miss:qab
 steps:Int
def RM.c (C:Cfg) (m:RM):List AV:=[.slice (C.state.map Pr.c),Bo C.all,.slice (C.rd.map qaz),.slice (C.wr.map qaz),.slice (m.vars.map Pr.c),.slice (m.own.map Pr.c),I m.st,I m.code,.slice (m.out.map V.c),.slice (m.reads.map qaz),.slice (m.puts.map qaz),.slice [],S m.miss,I m.steps]
def RM.ab (m:RM) (c:Int):RM:={ m with st:=2,code:=c,out:=[] }
def RM.rst (m:RM) (k:qab):RM:={ m with st:=3,code:=0,out:=[],miss:=k }
def restP (l:List Pr) (k:qab):Nat:=if (l[posP k l]?).map Pr.key=some k then posP k l+1 else posP k l
def setR (l:List Pr) (p:Pr):List Pr:=l.take (posP p.key l)++p::l.drop (restP l p.key)
def storeR (C:Cfg) (m:RM) (k:qab) (v:V):RM :=
 if qdt k=false then m.ab 1004
 else if C.all=false∧hasK C.wr k=false then m.rst k
 else { m with puts:=withS m.puts k,own:=setR m.own ⟨k,v⟩ }
def emitR (m:RM) (v:V):RM:=if 16≤(m.out.length:Int) then m.ab 1007 else { m with out:=m.out++[v] }
section
variable (C:Cfg)
end
end Go.Cw

namespace Go.Cw
open Go Go.Abs
theorem qbl {α:Type}:∀ (l:List (qab×α)) (s k:qab) (v:α),qa7 (qbk l s v) k=if s=k then some v else qa7 l k
 | [],s,k,v=>by simp only [qbk,qa7]
 | p::l,s,k,v=>by
  rw [qbk];split
  ·
   rename_i h;rw [qa7,qa7];subst h;split<;>rfl
  ·
   rename_i h;rw [qa7,qbl l s k v,qa7];split
   ·
    rename_i h2;subst h2;rw [if_neg (fun e=>h e.symm)]
   · rfl
theorem setR_cons {p q:Pr} {l:List Pr} (h:sLt q.key p.key=true):setR (q::l) p=q::setR l p:=by
 unfold setR restP;simp only [posP,h,if_true,List.take_succ_cons,List.getElem?_cons_succ,List.cons_append];split<;>simp
theorem setR_map (l:List Pr) (p:Pr) (k:qab):hasP (setR l p) k=(decide (p.key=k)||hasP l k)∧getP (setR l p) k=if p.key=k then p.v else getP l k:=by
 induction l with
 | nil=>simp [setR,restP,posP,hasP,anyL,getP]
 | cons q l ih =>
  by_cases h:sLt q.key p.key=true
  ·
   rw [setR_cons h];have hne:=sLt_ne h;simp only [hasP,anyL,getP] at ih ⊢;rw [ih.1,ih.2];refine ⟨?_,?_⟩
   · rw [← Bool.or_assoc,← Bool.or_assoc,Bool.or_comm (decide (q.key=k))]
   ·
    by_cases h1:q.key=k
    ·
     have:¬ p.key=k:=fun e=>hne (h1.trans e.symm);simp [h1,this]
    · simp [h1]
  ·
   have e0:posP p.key (q::l)=0:=by simp [posP,h]
   by_cases h1:q.key=p.key
   ·
    have:setR (q::l) p=p::l:=by simp [setR,restP,e0,h1]
    rw [this];simp only [hasP,anyL,getP,h1];refine ⟨?_,?_⟩
    · cases decide (p.key=k)<;>simp
    · split<;>rfl
   ·
    have:setR (q::l) p=p::q::l:=by simp [setR,restP,e0,h1]
    rw [this];simp only [hasP,anyL,getP];exact ⟨trivial,trivial⟩
structure Sim (s:MS) (m:RM):Prop where
 vars:∀ k,qa7 s.vars k=if hasP m.vars k=true then some (getP m.vars k) else none
 own:∀ k,qa7 s.own k=if hasK s.puts k=true then some (getP m.own k) else none
 keys:keysP m.own=s.puts
 out:m.out=s.out
 reads:m.reads=s.reads
 puts:m.puts=s.puts
 steps:m.steps=s.steps
 st:m.st=0
 code:m.code=0
 miss:m.miss=em
structure Dead (z:Stop) (s:MS) (m:RM):Prop where
 reads:m.reads=s.reads
 puts:m.puts=s.puts
 steps:m.steps=s.steps
 out:m.out=[]
 st:m.st=z.status
 code:m.code=z.code
 miss:m.miss=z.miss
 ne:z.status≠0
theorem Sim.ab {s:MS} {m:RM} (h:Sim s m) (c:Int):Dead (ab c) s (m.ab c):=⟨h.reads,h.puts,h.steps,rfl,rfl,rfl,h.miss,by simp [Go.Cw.ab]⟩
theorem Sim.rst {s:MS} {m:RM} (h:Sim s m) (k:qab):Dead (rst k) s (m.rst k):=⟨h.reads,h.puts,h.steps,rfl,rfl,rfl,rfl,by simp [Go.Cw.rst]⟩
def EvSim (x:EV×MS) (y:V×RM):Prop:=match x.1 with
 | .ok v=>y.1=v∧Sim x.2 y.2
 | .error z=>y.1=V.nil∧Dead z x.2 y.2
theorem EvSim.ok {v:V} {s:MS} {m:RM} (h:Sim s m):EvSim (.ok v,s) (v,m):=⟨rfl,h⟩
theorem EvSim.ab {c:Int} {s:MS} {m:RM} (h:Sim s m):EvSim (.error (ab c),s) (V.nil,m.ab c):=⟨rfl,h.ab c⟩
section
variable {C:Cfg}
end
end Go.Cw

namespace Go.Cw
open Go Go.Abs
section
variable {C:Cfg}
section
variable (hV:vC C) (hC:rngC C)
include hV hC
end
end
end Go.Cw
