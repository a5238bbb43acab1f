/- Part 28 of a proof: CwPf -/
import Derived.Test.YtilhejdbiionhaaGreatDoorQ26
import Derived.Test.YtilhejdbiionhaaGreatDoorQ27
set_option linter.all false

namespace Go.Cw
open Go Go.Abs
structure XLe (x y:XS):Prop where
 r:∀ k∈x.r,k∈y.r
 w:∀ k∈x.w,k∈y.w
 f:x.f=true→y.f=true
theorem XLe.refl (x:XS):XLe x x:=⟨fun _ h=>h,fun _ h=>h,id⟩
theorem XLe.trans {x y z:XS} (h:XLe x y) (g:XLe y z):XLe x z:=⟨fun k hk=>g.r k (h.r k hk),fun k hk=>g.w k (h.w k hk),fun e=>g.f (h.f e)⟩
theorem XLe.ff {x y:XS} (h:XLe x y) (hf:y.f=false):x.f=false:=by
 cases hx:x.f with
 | false=>rfl
 | true=>rw [h.f hx] at hf;cases hf
theorem key_le (wr:Bool) (a:AX) (x:XS):XLe x (keyX wr a x).2:=by
 unfold keyX;split
 · exact ⟨fun _ h=>h,fun _ h=>h,fun _=>rfl⟩
 split
 · exact XLe.refl x
 ·
  cases wr
  · exact ⟨fun k h=>mem_addS.2 (.inl h),fun _ h=>h,id⟩
  · exact ⟨fun _ h=>h,fun k h=>mem_addS.2 (.inl h),id⟩
structure XK (P:XS→XS→Prop):Prop where
 refl:∀ x,P x x
 trans:∀ {x y z},P x y→P y z→P x z
 key:∀ wr a x,P x (keyX wr a x).2
section
variable {fmt:Int→qab} {P:XS→XS→Prop} (K:XK P)
include K
mutual
theorem xk_E:∀ (e:Ex) (f:MV) (x:XS),P x (exE fmt e f x).2
 | .mk op n s args,f,x=>by
  have hL:=xk_L args f x;rw [exE];split
  · exact K.refl x
  split
  · exact K.refl x
  split
  · exact K.refl x
  rcases hqhL:exL fmt args f x with ⟨_ | l,x'⟩<;>rw [hqhL] at hL
  · exact hL
  ·
   simp only at hL ⊢;split
   · exact K.trans hL (K.key _ _ _)
   split
   · exact hL
   · exact hL
theorem xk_L:∀ (l:List Ex) (f:MV) (x:XS),P x (exL fmt l f x).2
 | [],f,x=>by rw [exL];exact K.refl x
 | e::l,f,x=>by
  have hE:=xk_E e f x;rw [exL];rcases hqhE:exE fmt e f x with ⟨⟨a,_ | _⟩,x'⟩<;>rw [hqhE] at hE
  · exact hE
  ·
   simp only at hE ⊢;have hL:=xk_L l f x';rcases hqhL:exL fmt l f x' with ⟨_ | r,x''⟩<;>rw [hqhL] at hL
   · exact K.trans hE hL
   · exact K.trans hE hL
end
theorem xk_cnt {body:MV→XS→Option MV×XS} {name:qab} (hb:∀ f x,P x (body f x).2):∀ (n:Nat) (i:Int) (f:MV) (x:XS),P x (cntX body name n i f x).2
 | 0,i,f,x=>by rw [cntX];exact K.refl x
 | n+1,i,f,x=>by
  have h1:=hb (updF f name (kn (vI i))) x;rw [cntX];rcases hqh1:body (updF f name (kn (vI i))) x with ⟨_ | f',x'⟩<;>rw [hqh1] at h1
  · exact h1
  · exact K.trans h1 (xk_cnt hb n _ _ _)
theorem xk_rep {body:MV→XS→Option MV×XS} {name:qab} (hb:∀ f x,P x (body f x).2):∀ (n:Nat) (f:MV) (x:XS),P x (repX body name n f x).2
 | 0,f,x=>by rw [repX];exact K.refl x
 | n+1,f,x=>by
  have h1:=hb (updF f name unk) x;rw [repX];rcases hqh1:body (updF f name unk) x with ⟨o,x'⟩<;>rw [hqh1] at h1;simp only at h1 ⊢;split
  · exact h1
  ·
   cases o with
   | none=>exact h1
   | some f'=>exact K.trans h1 (xk_rep hb n _ _)
theorem xk_br {r1:Option MV×XS} {e:XS→Option MV×XS} {x:XS} (h1:P x r1.2) (h2:∀ y,P y (e y).2):P x (brX r1 e).2:=by
 unfold brX;split
 · exact h1
 split
 · exact K.trans h1 (h2 _)
 · exact K.trans h1 (h2 _)
mutual
theorem xk_St:∀ (t:St) (f:MV) (x:XS),P x (exSt fmt t f x).2
 | .mk op name mx a b body els,f,x=>by
  have hA:=xk_E (fmt:=fmt) K a f x;rw [exSt];split
  · exact K.refl x
  rcases hqhA:exE fmt a f x with ⟨⟨va,_ | _⟩,x1⟩<;>rw [hqhA] at hA
  · exact hA
  simp only at hA ⊢;split
  · exact hA
  split
  · exact hA
  split
  · exact K.trans hA (K.key _ _ _)
  split
  ·
   split
   · exact K.trans hA (xk_Bl body f x1)
   split
   · exact K.trans hA (xk_Bl els f x1)
   · exact K.trans hA (xk_br K (xk_Bl body f x1) fun y=>xk_Bl els f y)
  have hB:=xk_E (fmt:=fmt) K b f x1;rcases hqhB:exE fmt b f x1 with ⟨⟨vb,_ | _⟩,x2⟩<;>rw [hqhB] at hB
  · exact K.trans hA hB
  simp only at hB ⊢;split
  · exact K.trans hA (K.trans hB (K.key _ _ _))
  split
  ·
   split
   · exact K.trans hA hB
   · exact K.trans hA (K.trans hB (xk_cnt K (fun f x=>xk_Bl body f x) _ _ _ _))
  · exact K.trans hA (K.trans hB (xk_rep K (fun f x=>xk_Bl body f x) _ _ _))
theorem xk_Bl:∀ (l:List St) (f:MV) (x:XS),P x (qdu fmt l f x).2
 | [],f,x=>by rw [qdu];exact K.refl x
 | t::l,f,x=>by
  have hS:=xk_St t f x;rw [qdu];rcases hqhS:exSt fmt t f x with ⟨_ | f',x'⟩<;>rw [hqhS] at hS
  · exact hS
  · exact K.trans hS (xk_Bl l f' x')
end
end
theorem le_XK:XK XLe:=⟨XLe.refl,XLe.trans,key_le⟩
section
variable {fmt:Int→qab}
theorem exE_le (e:Ex) (f:MV) (x:XS):XLe x (exE fmt e f x).2:=xk_E le_XK e f x
theorem exL_le (l:List Ex) (f:MV) (x:XS):XLe x (exL fmt l f x).2:=xk_L le_XK l f x
theorem cnt_le {body:MV→XS→Option MV×XS} {name:qab} (hb:∀ f x,XLe x (body f x).2) (n:Nat) (i:Int) (f:MV) (x:XS):XLe x (cntX body name n i f x).2:=xk_cnt le_XK hb n i f x
theorem rep_le {body:MV→XS→Option MV×XS} {name:qab} (hb:∀ f x,XLe x (body f x).2) (n:Nat) (f:MV) (x:XS):XLe x (repX body name n f x).2:=xk_rep le_XK hb n f x
theorem br_le {r1:Option MV×XS} {e:XS→Option MV×XS} {x:XS} (h1:XLe x r1.2) (h2:∀ y,XLe y (e y).2):XLe x (brX r1 e).2:=xk_br le_XK h1 h2
theorem qbw (l:List St) (f:MV) (x:XS):XLe x (qdu fmt l f x).2:=xk_Bl le_XK l f x
def pureR (fmt:Int→qab) (op:Int) (vs:List V):EV:=(opS ⟨[],true,[],[],fmt⟩ op vs MS.nil).1
theorem op_pure {C:Cfg} {op:Int} {vs:List V} (har:(vs.length:Int)=qcp op) (h22:¬ (op=22∨op=23∨op=24)) (m:MS):opS C op vs m=(pureR C.fmt op vs,m):=by
 unfold pureR opS;split
 ·
  rename_i a;have h1:op=9∨op=18∨op=20∨op=21:=by
   unfold qcp at har;simp only [List.length_cons,List.length_nil] at har;grind
  unfold unS;rcases h1 with rfl | rfl | rfl | rfl
  · simp
  · simp
  · simp
  · simp
 · rfl
 · rfl
theorem nameOk_a:nameOk ⟨#[97]⟩=true:=by decide
theorem nameOk_b:nameOk ⟨#[98]⟩=true:=by decide
theorem chk_var {s:qab} (h:nameOk s=true):chkE (varEx s) 2=0:=by
 rw [varEx,chkE];have h1:qck 3 0 s ([]:List Ex).length ((2:Nat):Int)=0:=by simp [qck,qcp,h]
 rw [if_pos h1,chkL]
theorem chk_app {op:Int} {n:Nat} (har:(n:Int)=qcp op) (hop:¬ (op=1∨op=2∨op=3)):chkE (.mk op 0 em (qb2 n)) 1=0:=by
 have hle:=arity_le op;have hn2:n≤2:=by omega
 have hlen:(qb2 n).length=n:=by simp [qb2,abL];omega
 rw [chkE];have h1:qck op 0 em (qb2 n).length ((1:Nat):Int)=0:=by
  rw [hlen];unfold qck;rw [if_neg (by simp;omega),if_neg (by omega),if_neg (by simp;omega),if_neg (by omega)]
 rw [if_pos h1];have ha:=chk_var nameOk_a;have hb:=chk_var nameOk_b
 match n,hn2 with
 | 0,_=>rfl
 | 1,_=>rw [appArgs1,chkL,if_pos ha,chkL]
 | 2,_=>rw [appArgs2,chkL,if_pos ha,chkL,if_pos hb,chkL]
theorem ev_var {C:Cfg} {s:qab} {m:MS} {v:V} (h:qa7 m.vars s=some v):evE C (varEx s) m=(.ok v,m):=by
 rw [varEx,evE];simp [h]
theorem evL_app {C:Cfg} {vs:List V} (h:vs.length≤2):evL C (qb2 vs.length) (msV (qbm vs))=(.ok vs,msV (qbm vs)):=by
 match vs,h with
 | [],_=>rw [show qb2 ([]:List V).length=[] from rfl,evL]
 | [a],_ =>
  have h1:qa7 (msV (qbm [a])).vars ⟨#[97]⟩=some a:=by simp [msV,qbm,abL,qd0,qa7,qbk]
  rw [show qb2 [a].length=[varEx ⟨#[97]⟩] from rfl,evL,ev_var h1];simp only;rw [evL]
 | [a,b],_ =>
  have hne:¬ ((⟨#[97]⟩:qab)=⟨#[98]⟩):=by decide
  have h1:qa7 (msV (qbm [a,b])).vars ⟨#[97]⟩=some a:=by simp [msV,qbm,abL,qd0,qa7,qbk]
  have h2:qa7 (msV (qbm [a,b])).vars ⟨#[98]⟩=some b:=by simp [msV,qbm,abL,qd0,qa7,qbk,hne]
  rw [show qb2 [a,b].length=[varEx ⟨#[97]⟩,varEx ⟨#[98]⟩] from rfl,evL,ev_var h1];simp only;rw [evL,ev_var h2];simp only;rw [evL]
theorem apE_eq {op:Int} {vs:List V} (har:(vs.length:Int)=qcp op) (hop:¬ (op=1∨op=2∨op=3)) (h22:¬ (op=22∨op=23∨op=24)) (hv:∀ v∈vs,okX v) :
  apE fmt op vs=endS (pureR fmt op vs,msV (qbm vs)):=by
 have hle:=arity_le op;unfold apE evalS;have hvo:varsOk (qbm vs)=true:=by
  unfold varsOk;refine List.all_eq_true.2 fun q hq=>?_;obtain ⟨p,hp,rfl⟩:=List.mem_map.1 hq;exact hv _ (List.of_mem_zip hp).2
 rw [if_pos ⟨evOk_iff.2 ⟨chk_app har hop,by decide,by decide⟩,hvo⟩];rw [evE,if_neg (by omega),if_neg (by omega),if_neg (by omega),evL_app (by omega)];simp only;rw [op_pure har h22]
theorem apS_ok {op:Int} {vs:List V} (har:(vs.length:Int)=qcp op) (hop:¬ (op=1∨op=2∨op=3)) (h22:¬ (op=22∨op=23∨op=24)) (hv:∀ v∈vs,okX v) {v:V} (h:pureR fmt op vs=.ok v):apS fmt op vs=(kn v,true):=by
 unfold apS;rw [apE_eq har hop h22 hv,h];simp [endS,doneS]
theorem apS_err {op:Int} {vs:List V} (har:(vs.length:Int)=qcp op) (hop:¬ (op=1∨op=2∨op=3)) (h22:¬ (op=22∨op=23∨op=24)) (hv:∀ v∈vs,okX v) {z:Stop} (h:pureR fmt op vs=.error z):(apS fmt op vs).2=false:=by
 have hs:z.status≠1:=by
  have h1:opS ⟨[],true,[],[],fmt⟩ op vs MS.nil=(.error z,MS.nil):=by rw [op_pure har h22];exact congrArg (·,MS.nil) h
  rcases stop_op h1 with ⟨c,rfl⟩ | ⟨k,rfl,_⟩
  · simp [ab]
  · simp [rst]
 unfold apS;rw [apE_eq har hop h22 hv,h];simp [endS,doneS,hs]
end
def Apx (f:MV) (vs:List (qab×V)):Prop:=∀ s a,f s=some a→a.known=true→qa7 vs s=some a.v
def Knw:List AX→List V→Prop
 | [],[]=>True
 | a::l,v::q=>(a.known=true→a.v=v)∧Knw l q
 | _,_=>False
theorem Knw.len:∀ {l:List AX} {q:List V},Knw l q→l.length=q.length
 | [],[],_=>rfl
 | a::l,v::q,h=>by simp [Knw.len h.2]
 | [],_::_,h=>h.elim
 | _::_,[],h=>h.elim
theorem Knw.all:∀ {l:List AX} {q:List V},Knw l q→l.all (·.known)=true→l.map (·.v)=q
 | [],[],_,_=>rfl
 | a::l,v::q,h,hk=>by
  simp only [List.all_cons,Bool.and_eq_true] at hk;rw [List.map_cons,h.1 hk.1,Knw.all h.2 hk.2]
 | [],_::_,h,_=>h.elim
 | _::_,[],h,_=>h.elim
section
variable {D:Cfg} (hV:vC D) (hC:rngC D) (hA:D.all=true)
include hV hC hA
mutual
theorem cov_ev:∀ (e:Ex) (d:Nat) (f:MV) (x:XS) (m:MS),chkE e d=0→rngX e→vM m→rngM m→ascS m.reads→Apx f m.vars→(exE D.fmt e f x).2.f=false →
  (∀ k∈(evE D e m).2.reads,k∈m.reads∨k∈(exE D.fmt e f x).2.r)∧((exE D.fmt e f x).1.2=false→∃ z,(evE D e m).1=.error z)∧(∀ v,(evE D e m).1=.ok v→(exE D.fmt e f x).1.1.known=true→(exE D.fmt e f x).1.1.v=v)
 | .mk op n s args,d,f,x,m,hc,hR,hM,hr,ha,hX,hf=>by
  have har:=(chkE_ar hc).1;have hR':=(qdh _).1 hR;simp only [Ex.args,Ex.op,Ex.n,Ex.s] at har hR';have hc':=(chkE_ar hc).2;simp only [Ex.args] at hc';have hcl:chkL args (d+1)=0:=by
   rw [chkE] at hc;split at hc
   · exact hc
   · contradiction
  rw [exE] at hf;rw [exE,evE];by_cases h1:op=1
  ·
   simp only [h1,if_true];exact ⟨fun k hk=>.inl hk,fun h=>(by cases h),fun v hv _=>(by cases hv;rfl)⟩
  by_cases h2:op=2
  ·
   simp only [h1,h2,if_true,if_false];exact ⟨fun k hk=>.inl hk,fun h=>(by cases h),fun v hv _=>(by cases hv;rfl)⟩
  by_cases h3:op=3
  ·
   simp only [h3,show ¬ ((3:Int)=1) by decide,show ¬ ((3:Int)=2) by decide,if_true,if_false];refine ⟨fun k hk=>.inl hk,fun h=>(by cases h),fun v hv hk=>?_⟩;rcases hfs:f s with _ | a
   · rw [hfs] at hk;cases hk
   ·
    rw [hfs] at hk;have hg:=hX s a hfs hk;rw [hg] at hv;cases hv;rfl
  simp only [h1,h2,h3,if_false] at hf ⊢;have hfL:(exL D.fmt args f x).2.f=false:=by
   rcases hL:exL D.fmt args f x with ⟨_ | l,x'⟩
   · rw [hL] at hf;exact hf
   ·
    rw [hL] at hf;simp only at hf ⊢;split at hf
    · exact (key_le _ _ _).ff hf
    split at hf
    · exact hf
    · exact hf
  have hI:=cov_evL args (d+1) f x m hcl hR'.2 hM hr ha hX hfL;have hoE:=evL_ok hC args m hR'.2 hr ha;rcases hL:exL D.fmt args f x with ⟨_ | l,x'⟩
  ·
   rw [hL] at hI;obtain ⟨i1,i2,_⟩:=hI;obtain ⟨z,hz⟩:=i2 rfl;rcases hE:evL D args m with ⟨z' | q,m'⟩
   ·
    rw [hE] at i1;exact ⟨i1,fun _=>⟨_,rfl⟩,fun v hv=>(by cases hv)⟩
   · rw [hE] at hz;cases hz
  ·
   rw [hL] at hI hf;simp only at hf ⊢;obtain ⟨i1,_,i3⟩:=hI;rcases hE:evL D args m with ⟨z' | q,m'⟩
   ·
    rw [hE] at i1;simp only at i1 ⊢;refine ⟨fun k hk=>?_,fun _=>⟨_,rfl⟩,fun v hv=>(by cases hv)⟩;rcases i1 k hk with h | h
    · exact .inl h
    ·
     refine .inr ?_;split
     · exact (key_le _ _ _).r k h
     split
     · exact h
     · exact h
   ·
    rw [hE] at i1 i3 hoE;simp only at i1 i3 hoE ⊢;have hK:=i3 l q rfl rfl;have hql:(q.length:Int)=qcp op:=by rw [evL_len hE];exact har
    have hqx:=okX_evL hV hC args (d+1) m m' q hcl hR'.2 hM hr ha hE;by_cases h22:op=22∨op=23∨op=24
    ·
     rw [if_pos h22] at hf ⊢;have hq1:q.length=1:=by have:=arity_get h22;omega
     obtain ⟨b,rfl⟩:∃ b,q=[b]:=by
      match q,hq1 with
      | [b],_=>exact ⟨b,rfl⟩
     obtain ⟨a,rfl⟩:∃ a,l=[a]:=by
      have:=hK.len
      match l,this with
      | [a],_=>exact ⟨a,rfl⟩
     simp only [List.headD_cons] at hf ⊢;have hkn:a.known=true:=by
      cases hk:a.known with
      | true=>rfl
      | false=>rw [keyX,if_pos hk] at hf;cases hf
     have hab:=hK.1 hkn;have hop:opS D op [b] m'=if b.k≠2 then (.error (ab 1009),m') else match qbr D b.s m' with
       | (.error z,t)=>(.error z,t)
       | (.ok v,t)=>(gotS op v,t):=by
      show unS D op b m'=_;unfold unS;rw [if_neg (by omega),if_neg (by omega),if_neg (by omega),if_neg (by omega)];rfl
     rw [hop];by_cases hb2:b.k≠2
     ·
      rw [if_pos hb2];exact ⟨fun k hk=>(i1 k hk).imp id ((key_le _ _ _).r k),fun _=>⟨_,rfl⟩,fun v hv=>(by cases hv)⟩
     ·
      rw [if_neg hb2];by_cases hko:qdt b.s=true
      ·
       have hkx:keyX false a x'=(true,⟨addS x'.r b.s,x'.w,x'.f⟩):=by
        simp [keyX,hkn,hab,hko]
       rw [hkx];refine ⟨fun k hk=>?_,fun h=>(by cases h),fun v _ hk=>(by cases hk)⟩;have hrd:∀ k∈(qbr D b.s m').2.reads,k=b.s∨k∈m'.reads:=fun k hk=>by
        unfold qbr at hk;rw [if_neg (by simp [hko])] at hk;split at hk
        · exact .inr hk
        ·
         rw [if_neg (by simp [hA])] at hk;exact withS_mem.1 hk
       have hk':k∈(qbr D b.s m').2.reads:=by
        rcases hF:qbr D b.s m' with ⟨z | v,t⟩
        · rw [hF] at hk;exact hk
        · rw [hF] at hk;exact hk
       rcases hrd k hk' with rfl | h
       · exact .inr (mem_addS.2 (.inr rfl))
       · exact (i1 k h).imp id fun h=>mem_addS.2 (.inl h)
      ·
       have hkx:keyX false a x'=(false,x'):=by
        simp [keyX,hkn,hab,hko]
       have hF:qbr D b.s m'=(.error (ab 1004),m'):=by
        unfold qbr;rw [if_pos (by simpa using hko)]
       rw [hkx,hF];exact ⟨i1,fun _=>⟨_,rfl⟩,fun v hv=>(by cases hv)⟩
    ·
     rw [if_neg h22] at hf ⊢;rw [op_pure hql h22];by_cases hall:l.all (·.known)=false
     ·
      rw [if_pos hall];exact ⟨i1,fun h=>(by cases h),fun v _ hk=>(by cases hk)⟩
     ·
      rw [if_neg hall];have he:=hK.all (by simpa using hall);rw [he];rcases hp:pureR D.fmt op q with z | v
      ·
       have:=apS_err hql (by omega) h22 hqx hp;exact ⟨i1,fun _=>⟨_,rfl⟩,fun v hv=>(by cases hv)⟩
      ·
       rw [apS_ok hql (by omega) h22 hqx hp];exact ⟨i1,fun h=>(by cases h),fun w hw _=>(by cases hw;rfl)⟩
theorem cov_evL:∀ (l:List Ex) (d:Nat) (f:MV) (x:XS) (m:MS),chkL l d=0→(∀ e∈l,rngX e)→vM m→rngM m→ascS m.reads→Apx f m.vars→(exL D.fmt l f x).2.f=false →
  (∀ k∈(evL D l m).2.reads,k∈m.reads∨k∈(exL D.fmt l f x).2.r)∧((exL D.fmt l f x).1=none→∃ z,(evL D l m).1=.error z)∧(∀ r q,(exL D.fmt l f x).1=some r→(evL D l m).1=.ok q→Knw r q)
 | [],d,f,x,m,_,_,_,_,_,_,_=>by
  rw [exL,evL];exact ⟨fun k hk=>.inl hk,fun h=>(by cases h),fun r q h1 h2=>(by cases h1;cases h2;exact trivial)⟩
 | e::l,d,f,x,m,hc,hR,hM,hr,ha,hX,hf=>by
  rw [chkL] at hc;split at hc
  rotate_left
  · contradiction
  rename_i h0;have hoE:=evE_ok hC e m (hR e (by simp)) hr ha;rw [exL] at hf;rw [exL,evL];have hfE:(exE D.fmt e f x).2.f=false:=by
   rcases hE:exE D.fmt e f x with ⟨⟨a,_ | _⟩,x'⟩
   · rw [hE] at hf;exact hf
   ·
    rw [hE] at hf;have:=exL_le (fmt:=D.fmt) l f x';simp only at hf ⊢;rcases hL:exL D.fmt l f x' with ⟨_ | r,x''⟩
    · rw [hL] at hf this;exact this.ff hf
    · rw [hL] at hf this;exact this.ff hf
  obtain ⟨i1,i2,i3⟩:=cov_ev e d f x m h0 (hR e (by simp)) hM hr ha hX hfE;rcases hE:exE D.fmt e f x with ⟨⟨a,_ | _⟩,x'⟩
  ·
   rw [hE] at i1 i2;obtain ⟨z,hz⟩:=i2 rfl;rcases hv:evE D e m with ⟨z' | v,m'⟩
   ·
    rw [hv] at i1;exact ⟨i1,fun _=>⟨_,rfl⟩,fun r q h1=>(by cases h1)⟩
   · rw [hv] at hz;cases hz
  ·
   rw [hE] at i1 i3 hf;simp only at i1 i3 hf ⊢;have hle:=exL_le (fmt:=D.fmt) l f x';have hfL:(exL D.fmt l f x').2.f=false:=by
    rcases hL:exL D.fmt l f x' with ⟨_ | r,x''⟩
    · rw [hL] at hf;exact hf
    · rw [hL] at hf;exact hf
   have hx2:(match exL D.fmt l f x' with
     | (none,x'')=>((none,x''):Option (List AX)×XS)
     | (some r,x'')=>(some (a::r),x'')).2=(exL D.fmt l f x').2:=by
    rcases exL D.fmt l f x' with ⟨_ | r,x''⟩<;>rfl
   rcases hv:evE D e m with ⟨z' | v,m'⟩
   ·
    rw [hv] at i1;simp only at i1 ⊢;refine ⟨fun k hk=>(i1 k hk).imp id fun h=>?_,fun _=>⟨_,rfl⟩,fun r q _ h2=>(by cases h2)⟩;have h2:=hle.r k h;rw [← hx2] at h2;exact h2
   ·
    rw [hv] at i1 i3 hoE;simp only at i1 i3 hoE ⊢;obtain ⟨j1,j2,j3⟩:=cov_evL l d f x' m' hc (fun y hy=>hR y (by simp [hy])) (vM_ev hoE.1 hM) (hoE.1.rng hr) hoE.1.asc (by rw [hoE.1.vars];exact hX) hfL;rcases hL:exL D.fmt l f x' with ⟨_ | r,x''⟩
    ·
     rw [hL] at j1 j2 hle;obtain ⟨z,hz⟩:=j2 rfl;rcases hw:evL D l m' with ⟨z' | q,m''⟩
     ·
      rw [hw] at j1;simp only at j1 ⊢;exact ⟨fun k hk=>(j1 k hk).elim (fun h=>(i1 k h).imp id (hle.r k)) .inr,fun _=>⟨_,rfl⟩,fun r q h1=>(by cases h1)⟩
     · rw [hw] at hz;cases hz
    ·
     rw [hL] at j1 j3 hle;simp only at j1 j3 hle ⊢;rcases hw:evL D l m' with ⟨z' | q,m''⟩
     ·
      rw [hw] at j1;simp only at j1 ⊢;exact ⟨fun k hk=>(j1 k hk).elim (fun h=>(i1 k h).imp id (hle.r k)) .inr,fun _=>⟨_,rfl⟩,fun r q _ h2=>(by cases h2)⟩
     ·
      rw [hw] at j1 j3;simp only at j1 j3 ⊢;refine ⟨fun k hk=>(j1 k hk).elim (fun h=>(i1 k h).imp id (hle.r k)) .inr,fun h=>(by cases h),fun r' q' h1 h2=>?_⟩;cases h1;cases h2;exact ⟨fun hk=>i3 v rfl hk,j3 r q rfl rfl⟩
end
end
end Go.Cw
