/- Part 24 of a proof: CwX, CwY, CwI, CwW, CwMv, CwMw, CwOc, CwUb -/
import Derived.Test.YtdbpbpmikpdjcaaGreatDoorQ17
import Derived.Test.YtdbpbpmikpdjcaaGreatDoorQ20
import Derived.Test.YtdbpbpmikpdjcaaGreatDoorQ23
set_option linter.all false

namespace Go.Cw
open Go Go.Abs
structure RM where
 vars:List Pr
 own:List Pr
 st:Int
 code:Int
 out:List V
 reads:List qad
 puts:List qad
 miss:qad
 steps:Int
def RM.c (C:Cfg) (m:RM):List AV:=[.slice (C.state.map Pr.c),Bo C.all,.slice (C.rd.map qbg),.slice (C.wr.map qbg),.slice (m.vars.map Pr.c),.slice (m.own.map Pr.c),I m.st,I m.code,.slice (m.out.map V.c),.slice (m.reads.map qbg),.slice (m.puts.map qbg),.slice [],S m.miss,I m.steps]
def RM.ab (m:RM) (c:Int):RM:={ m with st:=2,code:=c,out:=[] }
def RM.rst (m:RM) (k:qad):RM:={ m with st:=3,code:=0,out:=[],miss:=k }
def restP (l:List Pr) (k:qad):Nat:=if (l[posP k l]?).map Pr.key=some k then posP k l+1 else posP k l
def setR (l:List Pr) (p:Pr):List Pr:=l.take (posP p.key l)++p::l.drop (restP l p.key)
def qbk (C:Cfg) (m:RM) (k:qad):V×RM :=
 if keyOk k=false then (V.nil,m.ab 1004)
 else if hasK m.puts k=true then (getP m.own k,m)
 else if C.all=false∧hasK C.rd k=false then (V.nil,m.rst k)
 else (getP C.state k,{ m with reads:=qec m.reads k })
def storeR (C:Cfg) (m:RM) (k:qad) (v:V):RM :=
 if keyOk k=false then m.ab 1004
 else if C.all=false∧hasK C.wr k=false then m.rst k
 else { m with puts:=qec m.puts k,own:=setR m.own ⟨k,v⟩ }
def emitR (m:RM) (v:V):RM:=if 16≤(m.out.length:Int) then m.ab 1007 else { m with out:=m.out++[v] }
def qdo (m:RM):RM:=if 16384<W64 (m.steps+1) then { m with steps:=W64 (m.steps+1) }.ab 1008 else { m with steps:=W64 (m.steps+1) }
def calcR (m:RM) (r:Int×Int):V×RM:=if r.2=4 then (V.nil,m.ab 1002) else if r.2≠0 then (V.nil,m.ab 1001) else (vI r.1,m)
def arithR (op a b:Int):Int×Int:=if op=4 then numAdd a b else if op=5 then qcs a b else if op=6 then numMul a b else if op=7 then numDiv a b else numMod a b
def cmpR (a b:V):Int:=if a.n<b.n∨sLt a.s b.s=true then -1 else if eqVal a b=true then 0 else 1
def twoR (m:RM) (op:Int) (a b:V):V×RM :=
 if op=4∨op=5∨op=6∨op=7∨op=8 then (if a.k=1∧b.k=1 then calcR m (arithR op a.n b.n) else (V.nil,m.ab 1009))
 else if op=16 then (if a.k=3∧b.k=3 then (vB (decide (a.n=1)&&decide (b.n=1)),m) else (V.nil,m.ab 1009))
 else if op=17 then (if a.k=3∧b.k=3 then (vB (decide (a.n=1)||decide (b.n=1)),m) else (V.nil,m.ab 1009))
 else if op=19 then (if a.k=2∧b.k=2 then (if 64<W64 (a.s.size+b.s.size:Int) then (V.nil,m.ab 1006) else (vS (a.s++b.s),m)) else (V.nil,m.ab 1009))
 else if (a.k=1∧b.k=1)∨(a.k=2∧b.k=2)∨(a.k=3∧b.k=3∧(op=10∨op=11)) then (vB (cmpBy op (cmpR a b)),m)
 else (V.nil,m.ab 1009)
def wantR (op:Int):Int:=if op=18 then 3 else if op=9∨op=20 then 1 else 2
def oneR (C:Cfg) (m:RM) (op:Int) (a:V):V×RM :=
 if a.k≠wantR op then (V.nil,m.ab 1009)
 else if op=9 then calcR m (qdn a.n)
 else if op=18 then (vB (decide (a.n=0)),m)
 else if op=20 then (vS (C.fmt a.n),m)
 else if op=21 then (vI a.s.size,m)
 else
  let x:=qbk C m a.s
  if x.2.st≠0 then (V.nil,x.2)
  else if op=24 then (vB (!decide (x.1.k=0)),x.2)
  else if x.1.k=0 then (⟨if op=23 then 2 else 1,0,em⟩,x.2)
  else if x.1.k≠(if op=23 then 2 else 1) then (V.nil,x.2.ab 1003)
  else (x.1,x.2)
def opR (C:Cfg) (m:RM) (op:Int) (l:List V):V×RM :=
 match l with
 | [a]=>oneR C m op a
 | [a,b]=>twoR m op a b
 | _=>(V.nil,m.ab 1009)
section
variable (C:Cfg)
mutual
def evR:Ex→RM→V×RM
 | .mk op n s args,m =>
  if op=1 then (vI n,m)
  else if op=2 then (vS s,m)
  else if op=3 then (if hasP m.vars s=true then (getP m.vars s,m) else (V.nil,m.ab 1009))
  else
   let x:=evRL args m
   if x.2.st≠0 then (V.nil,x.2) else opR C x.2 op x.1
def evRL:List Ex→RM→List V×RM
 | [],m=>([],m)
 | e::l,m =>
  let x:=evR e m
  if x.2.st≠0 then ([],x.2)
  else
   let y:=evRL l x.2
   (x.1::y.1,y.2)
end
theorem evR_eq (e:Ex) (m:RM):evR C e m=if e.op=1 then (vI e.n,m)
  else if e.op=2 then (vS e.s,m)
  else if e.op=3 then (if hasP m.vars e.s=true then (getP m.vars e.s,m) else (V.nil,m.ab 1009))
  else if (evRL C e.args m).2.st≠0 then (V.nil,(evRL C e.args m).2) else opR C (evRL C e.args m).2 e.op (evRL C e.args m).1:=by
 cases e;rw [evR];rfl
end
end Go.Cw

namespace Go.Cw
open Go Go.Abs
theorem qch {α:Type}:∀ (l:List (qad×α)) (s k:qad) (v:α),qby (qcl l s v) k=if s=k then some v else qby l k
 | [],s,k,v=>by simp only [qcl,qby]
 | p::l,s,k,v=>by
  rw [qcl]
  split
  ·
   rename_i h
   rw [qby,qby]
   subst h
   split<;>rfl
  ·
   rename_i h
   rw [qby,qch l s k v,qby]
   split
   ·
    rename_i h2
    subst h2
    rw [if_neg (fun e=>h e.symm)]
   · rfl
theorem cmpL_lt:∀ (a b:List UInt8),(Go.Lib.compareBytes a b<0↔Op.bytesLess a b=true)∧(Go.Lib.compareBytes a b=0↔a=b)
 | [],[]=>by simp [Go.Lib.compareBytes,Op.bytesLess]
 | [],_::_=>by simp [Go.Lib.compareBytes,Op.bytesLess]
 | _::_,[]=>by simp [Go.Lib.compareBytes,Op.bytesLess]
 | x::a,y::b=>by
  have ih:=cmpL_lt a b
  simp only [Go.Lib.compareBytes,Op.bytesLess,List.cons.injEq]
  split
  ·
   rename_i h
   have:x≠y:=by rintro rfl;exact absurd h (by simp)
   simp [h,this]
  ·
   rename_i h
   split
   ·
    rename_i h2
    have:x≠y:=by rintro rfl;exact absurd h2 (by simp)
    simp [h,this]
   ·
    rename_i h2
    have:x=y:=by
     apply UInt8.toNat_inj.1
     have h3:¬ x.toNat<y.toNat:=h
     have h4:¬ y.toNat<x.toNat:=h2
     omega
    subst this
    simp [ih]
theorem cmpS_lt (a b:qad):(cmpS a b<0↔sLt a b=true)∧(cmpS a b=0↔a=b):=by
 have h:=cmpL_lt a.data.toList b.data.toList
 have e:∀ x:qad,x.toList=x.data.toList:=fun x=>by simp [ByteArray.toList_eq]
 refine ⟨?_,?_⟩
 ·
  unfold cmpS sLt
  rw [e,e]
  exact h.1
 ·
  unfold cmpS
  rw [h.2]
  constructor
  ·
   intro he
   have:a.data=b.data:=Array.toList_inj.1 he
   cases a;cases b;simp_all
  · rintro rfl;rfl
theorem setR_cons {p q:Pr} {l:List Pr} (h:sLt q.key p.key=true):setR (q::l) p=q::setR l p:=by
 unfold setR restP
 simp only [posP,h,if_true,List.take_succ_cons,List.getElem?_cons_succ,List.cons_append]
 split<;>simp
theorem setR_map (l:List Pr) (p:Pr) (k:qad):hasP (setR l p) k=(decide (p.key=k)||hasP l k)∧getP (setR l p) k=if p.key=k then p.v else getP l k:=by
 induction l with
 | nil=>simp [setR,restP,posP,hasP,anyL,getP]
 | cons q l ih =>
  by_cases h:sLt q.key p.key=true
  ·
   rw [setR_cons h]
   have hne:=sLt_ne h
   simp only [hasP,anyL,getP] at ih ⊢
   rw [ih.1,ih.2]
   refine ⟨?_,?_⟩
   · rw [← Bool.or_assoc,← Bool.or_assoc,Bool.or_comm (decide (q.key=k))]
   ·
    by_cases h1:q.key=k
    ·
     have:¬ p.key=k:=fun e=>hne (h1.trans e.symm)
     simp [h1,this]
    · simp [h1]
  ·
   have e0:posP p.key (q::l)=0:=by simp [posP,h]
   by_cases h1:q.key=p.key
   ·
    have:setR (q::l) p=p::l:=by simp [setR,restP,e0,h1]
    rw [this]
    simp only [hasP,anyL,getP,h1]
    refine ⟨?_,?_⟩
    · cases decide (p.key=k)<;>simp
    · split<;>rfl
   ·
    have:setR (q::l) p=p::q::l:=by simp [setR,restP,e0,h1]
    rw [this]
    simp only [hasP,anyL,getP]
    exact ⟨trivial,trivial⟩
theorem setR_keys (l:List Pr) (p:Pr):qcq (setR l p)=qec (qcq l) p.key:=by
 have hp:=posP_eq p.key l
 unfold setR qec restP
 rw [← hp]
 have hg:(qcq l)[posP p.key l]?=(l[posP p.key l]?).map Pr.key:=by simp [qcq]
 rw [hg]
 split
 ·
  rename_i h
  obtain ⟨q,hq,hk⟩:=Option.map_eq_some_iff.1 h
  obtain ⟨hlt,rfl⟩:=List.getElem?_eq_some_iff.1 hq
  have e:l=l.take (posP p.key l)++l[posP p.key l]::l.drop (posP p.key l+1):=by
   rw [List.getElem_cons_drop,List.take_append_drop]
  conv=>rhs;rw [e]
  simp only [qcq,List.map_append,List.map_cons,hk]
 · simp [qcq]
structure Sim (s:MS) (m:RM):Prop where
 vars:∀ k,qby s.vars k=if hasP m.vars k=true then some (getP m.vars k) else none
 own:∀ k,qby s.own k=if hasK s.puts k=true then some (getP m.own k) else none
 keys:qcq m.own=s.puts
 out:m.out=s.out
 reads:m.reads=s.reads
 puts:m.puts=s.puts
 steps:m.steps=s.steps
 st:m.st=0
 code:m.code=0
 miss:m.miss=em
structure Dead (z:Stop) (s:MS) (m:RM):Prop where
 reads:m.reads=s.reads
 puts:m.puts=s.puts
 steps:m.steps=s.steps
 out:m.out=[]
 st:m.st=z.status
 code:m.code=z.code
 miss:m.miss=z.miss
 ne:z.status≠0
theorem Sim.ab {s:MS} {m:RM} (h:Sim s m) (c:Int):Dead (ab c) s (m.ab c):=⟨h.reads,h.puts,h.steps,rfl,rfl,rfl,h.miss,by simp [Go.Cw.ab]⟩
theorem Sim.rst {s:MS} {m:RM} (h:Sim s m) (k:qad):Dead (rst k) s (m.rst k):=⟨h.reads,h.puts,h.steps,rfl,rfl,rfl,rfl,by simp [Go.Cw.rst]⟩
def EvSim (x:EV×MS) (y:V×RM):Prop:=match x.1 with
 | .ok v=>y.1=v∧Sim x.2 y.2
 | .error z=>y.1=V.nil∧Dead z x.2 y.2
theorem EvSim.ok {v:V} {s:MS} {m:RM} (h:Sim s m):EvSim (.ok v,s) (v,m):=⟨rfl,h⟩
theorem EvSim.ab {c:Int} {s:MS} {m:RM} (h:Sim s m):EvSim (.error (ab c),s) (V.nil,m.ab c):=⟨rfl,h.ab c⟩
theorem hasK_with (l:List qad) (k x:qad):hasK (qec l k) x=(decide (k=x)||hasK l x):=by
 have h:∀ a:Bool,∀ P:Prop,(a=true↔P)→∀ b:Bool,(b=true↔P)→a=b:=by
  intro a P h b g
  cases a<;>cases b<;>simp_all
 refine h _ (x=k∨x∈l) (hasK_iff.trans withS_mem) _ ?_
 simp only [Bool.or_eq_true,decide_eq_true_eq,hasK_iff]
 constructor<;>(rintro (rfl | h)<;>simp_all)
section
variable {C:Cfg}
theorem sim_fetch {s:MS} {m:RM} (h:Sim s m) (k:qad):EvSim (qct C k s) (qbk C m k):=by
 unfold qct qbk
 split
 · exact .ab h
 have ho:=h.own k
 rw [h.puts]
 by_cases hp:hasK s.puts k=true
 ·
  rw [if_pos hp] at ho
  rw [ho,if_pos hp]
  exact .ok h
 ·
  rw [if_neg hp] at ho
  rw [ho,if_neg hp]
  simp only
  split
  · exact ⟨rfl,h.rst k⟩
  · exact ⟨rfl,⟨h.vars,h.own,h.keys,h.out,by simp only [h.reads],rfl,h.steps,h.st,h.code,h.miss⟩⟩
def StSim (x:Except Stop Unit×MS) (m:RM):Prop:=match x.1 with
 | .ok _=>Sim x.2 m
 | .error z=>Dead z x.2 m
theorem sim_store {s:MS} {m:RM} (h:Sim s m) (k:qad) (v:V):StSim (qca C k v s) (storeR C m k v):=by
 unfold qca storeR
 split
 · exact h.ab _
 split
 · exact h.rst k
 ·
  refine ⟨h.vars,fun x=>?_,?_,h.out,h.reads,by simp only [h.puts],h.steps,h.st,h.code,h.miss⟩
  ·
   simp only
   rw [qch,(setR_map _ _ _).2,hasK_with]
   by_cases hx:k=x
   · simp [hx]
   · simp [hx,h.own x]
  ·
   simp only
   rw [setR_keys,h.keys]
theorem sim_emit {s:MS} {m:RM} (h:Sim s m) (hl:s.out.length≤16) (v:V):StSim (emitS v s) (emitR m v):=by
 unfold emitS emitR
 rw [h.out]
 by_cases hk:s.out.length=16
 ·
  rw [if_pos hk,if_pos (by omega)]
  exact h.ab _
 ·
  rw [if_neg hk,if_neg (by omega)]
  exact ⟨h.vars,h.own,h.keys,by simp only,h.reads,h.puts,h.steps,h.st,h.code,h.miss⟩
theorem sim_tick {s:MS} {m:RM} (h:Sim s m) (hs:s.steps≤16384):StSim (qed s) (qdo m):=by
 unfold qed qdo
 have e:W64 (m.steps+1)=(s.steps+1:Nat):=by rw [h.steps,W64_id (by omega) (by omega)];simp
 rw [e]
 have h':Sim { s with steps:=s.steps+1 } { m with steps:=((s.steps+1:Nat):Int) }:=⟨h.vars,h.own,h.keys,h.out,h.reads,h.puts,rfl,h.st,h.code,h.miss⟩
 by_cases hk:16384<s.steps+1
 ·
  rw [if_pos hk,if_pos (by omega)]
  exact h'.ab 1008
 ·
  rw [if_neg hk,if_neg (by omega)]
  exact h'
theorem sim_calc {s:MS} {m:RM} (h:Sim s m) (r:Int×Int):EvSim (qcd r,s) (calcR m r):=by
 unfold qcd calcR
 by_cases h0:r.2=0
 ·
  rw [if_pos h0,if_neg (by omega),if_neg (by omega)]
  exact .ok h
 ·
  rw [if_neg h0]
  by_cases h4:r.2=4
  · rw [if_pos h4,if_pos h4];exact .ab h
  · rw [if_neg h4,if_neg h4,if_pos h0];exact .ab h
theorem okX_1 {v:V} (h:okX v) (hk:v.k=1):v.s=em:=by
 unfold okX varOk valOk at h
 simpa [hk] using h
theorem okX_2 {v:V} (h:okX v) (hk:v.k=2):v.n=0∧(v.s.size:Int)≤64:=by
 have:=okX_plain h hk
 unfold qa9 at this
 unfold okX varOk valOk at h
 simp [hk] at h
 simp only [Bool.and_eq_true,decide_eq_true_eq] at this
 exact ⟨h.1,this.2⟩
theorem okX_3 {v:V} (h:okX v) (hk:v.k=3):v.s=em∧(v.n=0∨v.n=1):=by
 unfold okX varOk at h
 simp [hk] at h
 exact ⟨h.2,h.1⟩
theorem eqVal_iff (a b:V):eqVal a b=true↔a.k=b.k∧a.n=b.n∧a.s=b.s:=by
 simp [eqVal]
theorem cmpBy_sign {op c d:Int} (h1:c<0↔d<0) (h2:c=0↔d=0):cmpBy op c=cmpBy op d:=by
 unfold cmpBy
 have h3:0<c↔0<d:=by omega
 have h4:c≤0↔d≤0:=by omega
 have h5:0≤c↔0≤d:=by omega
 simp only [h1,h2,h3,h4,h5]
theorem cmp_sign {a b:V} (ha:okX a) (hb:okX b) (hk:a.k=b.k) (h:a.k=1∨a.k=2∨a.k=3):(cmpV a b<0↔cmpR a b<0)∧(cmpV a b=0↔cmpR a b=0):=by
 have hc:=cmpS_lt a.s b.s
 have hee:=cmpS_lt em em
 have hirr:=qcw em
 have key:(a.s=b.s∧a.s=em)∨a.n=b.n:=by
  rcases h with h | h | h
  · exact .inl ⟨by rw [okX_1 ha h,okX_1 hb (by omega)],okX_1 ha h⟩
  · exact .inr (by rw [(okX_2 ha h).1,(okX_2 hb (by omega)).1])
  · exact .inl ⟨by rw [(okX_3 ha h).1,(okX_3 hb (by omega)).1],(okX_3 ha h).1⟩
 have e1:=eqVal_iff a b
 unfold cmpV cmpR cmpI
 rw [if_neg (by omega)]
 rcases key with ⟨k1,k2⟩ | k
 ·
  have hl:sLt a.s b.s=false:=by rw [← k1,qcw]
  have h0:cmpS a.s b.s=0:=hc.2.2 k1
  rw [hl,h0]
  by_cases hn:a.n=b.n
  ·
   have:eqVal a b=true:=e1.2 ⟨hk,hn,k1⟩
   simp [hn,this]
  ·
   have:¬ eqVal a b=true:=fun h=>hn (e1.1 h).2.1
   simp only [hn,if_false,this]
   by_cases h1:a.n<b.n
   · simp [h1]
   ·
    have h2:b.n<a.n:=by omega
    simp [h1,h2]
 ·
  rw [if_pos k]
  by_cases hl:sLt a.s b.s=true
  ·
   have h1:=hc.1.2 hl
   simp only [hl,or_true,if_true]
   have h2:¬ cmpS a.s b.s=0:=by omega
   simp [h1,h2]
  ·
   have h1:¬ cmpS a.s b.s<0:=fun h=>hl (hc.1.1 h)
   have h2:¬ a.n<b.n:=by omega
   simp only [hl,or_false]
   by_cases he:a.s=b.s
   ·
    have h3:=hc.2.2 he
    have:eqVal a b=true:=e1.2 ⟨hk,k,he⟩
    simp [this,h3,h2]
   ·
    have h3:¬ cmpS a.s b.s=0:=fun h=>he (hc.2.1 h)
    have:¬ eqVal a b=true:=fun h=>he (e1.1 h).2.2
    rw [if_neg (by simp [h2]),if_neg this]
    exact ⟨⟨fun h=>(h1 h).elim,fun h=>by omega⟩,⟨fun h=>(h3 h).elim,fun h=>by omega⟩⟩
theorem sim_two {s:MS} {m:RM} (h:Sim s m) {op:Int} {a b:V} (ha:okX a) (hb:okX b) (hop:(4≤op∧op≤8)∨(10≤op∧op≤17)∨op=19):EvSim (binS op a b,s) (twoR m op a b):=by
 unfold binS twoR
 by_cases h1:op=4∨op=5∨op=6∨op=7∨op=8
 ·
  rw [if_pos h1,if_pos h1]
  by_cases hk:a.k=1∧b.k=1
  ·
   rw [if_pos hk,if_pos hk]
   unfold qea arithR
   repeat' split
   all_goals exact sim_calc h _
  · rw [if_neg hk,if_neg hk];exact .ab h
 rw [if_neg h1,if_neg h1]
 by_cases h2:op=16
 ·
  rw [if_pos h2,if_pos h2]
  split
  · exact .ok h
  · exact .ab h
 rw [if_neg h2,if_neg h2]
 by_cases h3:op=17
 ·
  rw [if_pos h3,if_pos h3]
  split
  · exact .ok h
  · exact .ab h
 rw [if_neg h3,if_neg h3]
 by_cases h4:op=19
 ·
  rw [if_pos h4,if_pos h4]
  by_cases hk:a.k=2∧b.k=2
  ·
   rw [if_pos hk,if_pos hk]
   unfold textS
   have l1:=(okX_2 ha hk.1).2
   have l2:=(okX_2 hb hk.2).2
   have e:W64 (a.s.size+b.s.size:Int)=((a.s++b.s).size:Int):=by
    rw [ByteArray.size_append,W64_id (by omega) (by omega)];simp
   rw [e]
   split
   · exact .ab h
   · exact .ok h
  · rw [if_neg hk,if_neg hk];exact .ab h
 rw [if_neg h4,if_neg h4]
 unfold compS
 by_cases hk:a.k=b.k∧(a.k=1∨a.k=2∨(a.k=3∧op≤11))
 ·
  rw [if_pos hk,if_pos (by omega)]
  have hc:=cmp_sign ha hb hk.1 (by omega)
  rw [cmpBy_sign hc.1 hc.2]
  exact .ok h
 · rw [if_neg hk,if_neg (by omega)];exact .ab h
end
end Go.Cw

namespace Go.Cw
open Go Go.Abs
structure YH (P:Program) (l:Nat) (HF:Nat→qac) (HX:Nat→Ex→qac) (stop:Ex→Bool) (n0:Nat):Prop where
 len:∀ k,(HF k).length=n0
 lenX:∀ k x,(HX k x).length=n0
 und:∀ k,hUnder n0 (HF k)=true
 undX:∀ k x,hUnder n0 (HX k x)=true
 y:∀ k (x:Ex) (L:qac),AYield P l [.agg x.x] (HF k++L) fun r h'=>(stop x=true→r=.ret (Bo false)∧h'=HX k x++L)∧(stop x=false→r=.ret (Bo true)∧h'=HF (k+1)++L)
theorem YH.ext {P:Program} {l:Nat} {HF:Nat→qac} {HX:Nat→Ex→qac} {stop:Ex→Bool} {n0:Nat} (Y:YH P l HF HX stop n0) (L:qac) (hL:hUnder (n0+L.length) L=true):YH P l (fun k=>HF k++L) (fun k x=>HX k x++L) stop (n0+L.length) where
 len:=fun k=>by rw [List.length_append,Y.len]
 lenX:=fun k x=>by rw [List.length_append,Y.lenX]
 und:=fun k=>by rw [qa2,qa5 (by omega) (Y.und k),hL];rfl
 undX:=fun k x=>by rw [qa2,qa5 (by omega) (Y.undX k x),hL];rfl
 y:=fun k x L'=>by simpa [List.append_assoc] using Y.y k x (L++L')
def finY (HF:Nat→qac) (HX:Nat→Ex→qac) (r:Nat×Option Ex):qac:=match r.2 with
 | none=>HF r.1
 | some e=>HX r.1 e
def gM (ms:List (Option Nat)):qac:=ms.map fun | none=>.none | some D=>qdz D
def dM (ms:List (Option Nat)):List Deferred:=(ms.filterMap id).reverse.map coll
def idxM:Nat→List (Option Nat)→List (Nat×Nat)
 | _,[]=>[]
 | k,none::l=>idxM (k+1) l
 | k,some D::l=>idxM (k+1) l++[(k,D)]
theorem idxM_coll:∀ (ms:List (Option Nat)) (k:Nat),(idxM k ms).map (fun p=>coll p.2)=dM ms
 | [],_=>rfl
 | none::l,k=>by simp only [idxM,idxM_coll l];rfl
 | some D::l,k=>by simp [idxM,idxM_coll l,dM]
theorem idxM_ge:∀ (ms:List (Option Nat)) (k:Nat) (p:Nat×Nat),p∈idxM k ms→k≤p.1∧p.1<k+ms.length∧(gM ms)[p.1 - k]?=some (qdz p.2)
 | [],_,p,h=>by simp [idxM] at h
 | none::l,k,p,h=>by
  obtain ⟨h1,h2,h3⟩:=idxM_ge l (k+1) p h
  refine ⟨by omega,by simp;omega,?_⟩
  rw [show p.1 - k=(p.1 - (k+1))+1 by omega]
  exact h3
 | some D::l,k,p,h=>by
  rw [idxM,List.mem_append] at h
  rcases h with h | h
  ·
   obtain ⟨h1,h2,h3⟩:=idxM_ge l (k+1) p h
   refine ⟨by omega,by simp;omega,?_⟩
   rw [show p.1 - k=(p.1 - (k+1))+1 by omega]
   exact h3
  ·
   simp at h
   subst h
   refine ⟨by simp,by simp,?_⟩
   simp [gM]
theorem idxM_nodup:∀ (ms:List (Option Nat)) (k:Nat),((idxM k ms).map (·.1)).Nodup
 | [],_=>List.nodup_nil
 | none::l,k=>idxM_nodup l (k+1)
 | some D::l,k=>by
  rw [idxM,List.map_append,List.nodup_append]
  refine ⟨idxM_nodup l (k+1),by simp,fun a ha b hb=>?_⟩
  rw [List.mem_map] at ha
  obtain ⟨p,hp,rfl⟩:=ha
  have:=(idxM_ge l (k+1) p hp).1
  simp at hb
  omega
theorem takeA:∀ (l:List (Nat×Nat)) (A Z:qac),(∀ p,p∈l→A.length≤p.1)→∃ Z',takeAll l (A++Z)=A++Z'
 | [],A,Z,_=>⟨Z,rfl⟩
 | p::l,A,Z,h=>by
  rw [takeAll,List.set_append_right _ _ (h p (by simp))]
  exact takeA l A _ fun q hq=>h q (by simp [hq])
theorem gM_app (a b:List (Option Nat)):gM (a++b)=gM a++gM b:=by simp [gM]
theorem dM_snoc (ms:List (Option Nat)) (D:Nat):dM (ms++[none,none,some D])=coll D::dM ms:=by simp [dM,List.filterMap_append]
theorem gM_und (ms:List (Option Nat)) (m:Nat):hUnder m (gM ms)=true:=by
 rw [hUnder_iff]
 intro o ho
 simp only [gM,List.mem_map] at ho
 obtain ⟨x,_,rfl⟩:=ho
 cases x<;>rfl
section
variable {P:Program} {E:Ent} {p:Tmp} {asg body:Code}
def recA (E:Ent) (e:Env) (p:Tmp) (asg body:Code) (l D:Nat) (fn:FuncId) (st:LoopState) (pe:Option Code):AObj:=.raw l (recO st pe fn #[p] asg body D) (slots E.N e)
def roundJ (E:Ent) (idx:Nat) (r0 rb rd:AObj) (R:AEnd→qac→Prop):AExit→List Deferred→Env→Prop
 | .normal,_,e=>e.h[idx]?=some rb∧∃ h',Wk E ⟨[],e.h.set idx r0⟩ ⟨[],h'⟩∧R (.ret (.val (.bool true))) h'
 | .ret,_,e=>e.h[idx]?=some rb∧∃ h',Wk E ⟨[],e.h.set idx rd⟩ ⟨[],h'⟩∧R (.ret (.val (.bool false))) h'
 | _,_,_=>False
theorem awpI_rangeY {g:Operand} {gf:FuncId} {caps:List AV} {Q:AExit→List Deferred→Env→Prop} {ds:List Deferred} {e:Env} (hg:e.get g=.fn (.func gf) [] caps) (hcaps:∀ H,qbf H caps=caps)
  (B:Nat→qac) (X:Nat→Ex→qac) (stop:Ex→Bool) (xs:List Ex) (k n0:Nat) (hB:e.h=B k) (len:∀ j,(B j).length=n0) (lenX:∀ j x,(X j x).length=n0) (und:∀ j,hUnder n0 (B j)=true) (undX:∀ j x,hUnder n0 (X j x)=true)
  (hsl:qaw n0 (slots E.N e)=true) (hp:p<E.N)
  (hit:∀ (l:Nat) (L:qac) (HX:Nat→Ex→qac) (n1:Nat),YH P l (fun j=>B j++L) HX stop n1→ACalls P gf ([.fn (.yield l) [] []]++caps) (B k++L) fun r h'=>r=.ret (.tuple [])∧h'=finY (fun j=>B j++L) HX (scan stop xs k))
  (hround:∀ (E':Ent) (l D j:Nat) (x:Ex) (L:qac) (r0 rb rd:AObj),(∀ m,n0≤m→r0.under m=true∧rb.under m=true∧rd.under m=true)→E'.N=E.N→E'.h=B j++qdz D::r0::L→hUnder E'.h.length E'.h=true→(AV.agg x.x).bd →
   AWpI P E' (some l) asg (thenI (fun ds e1=>ds=[]∧e1.h[n0+1]?=some r0 ∧
    AWpI P E' (some l) body (roundJ E' (n0+1) r0 rb rd fun r h' =>
     (stop x=true→r=.ret (Bo false)∧h'=X j x++qdz D::rd::L)∧(stop x=false→r=.ret (Bo true)∧h'=B (j+1)++qdz D::r0::L))
     [] ⟨e1.t,e1.h.set (n0+1) rb⟩) (fun _ _ _=>False)) [] ⟨(p,.agg x.x)::qdx 0 (slots E.N e),E'.h⟩)
  (hdone:∀ (j D:Nat) (o:AObj),scan stop xs k=(j,none)→Q .normal (coll D::ds) ⟨e.t,B j++[qdz D,o]⟩)
  (hstop:∀ (j:Nat) (x:Ex) (D:Nat) (o:AObj),scan stop xs k=(j,some x)→Q .ret (coll D::ds) ⟨e.t,X j x++[qdz D,o]⟩) :
  AWpI P E none (.rangeFunc g #[p] asg body) Q ds e:=by
 refine awpI_range hg fun fn D l=>?_
 have hL:∀ st pe,hUnder (n0+2) [qdz D,recA E e p asg body l D fn st pe]=true:=fun st pe=>by
  simp only [hUnder,qdz,recA,AObj.under,qaw,Bool.true_and,Bool.and_true]
  exact qcp (by omega) _ hsl
 have hnl:qbf (e.h++[qdz D,.raw l (recO .ready none fn #[p] asg body D) (slots E.N e)]) ([.fn (.yield l) [] []]++caps)=[.fn (.yield l) [] []]++caps:=by
  have:∀ (a b:List AV) H,qbf H (a++b)=qbf H a++qbf H b:=fun a b H=>by
   induction a with
   | nil=>rfl
   | cons x a ih=>simp [qbf,ih]
  rw [this,hcaps]
  simp [qbf,AV.norm]
 rw [hnl,hB]
 have Y:YH P l (fun j=>B j++[qdz D,recA E e p asg body l D fn .ready none]) (fun j x=>X j x++[qdz D,recA E e p asg body l D fn .done (some .ret)]) stop (n0+2):={
  len:=fun j=>by simp [len]
  lenX:=fun j x=>by simp [lenX]
  und:=fun j=>by rw [qa2,qa5 (by omega) (und j),hL];rfl
  undX:=fun j x=>by rw [qa2,qa5 (by omega) (undX j x),hL];rfl
  y:=fun j x L=>by
   have hidx:(B j++[qdz D,recA E e p asg body l D fn .ready none]++L)[n0+1]?=some (.raw l (recO .ready none fn #[p] asg body D) (slots E.N e)):=by
    rw [List.append_assoc,List.getElem?_append_right (by rw [len];omega),len,show n0+1 - n0=1 by omega]
    rfl
   refine ayield_of hidx (by simpa [slots] using hp) fun E' hN hh hu hbd _=>?_
   have hN':E'.N=E.N:=by rw [hN];simp [slots]
   have hh':E'.h=B j++qdz D::recA E e p asg body l D fn .ready none::L:=by rw [hh];simp
   have hun:∀ st pe m,n0≤m→(recA E e p asg body l D fn st pe).under m=true:=fun st pe m hm=>qcp hm _ hsl
   have:=hround E' l D j x L _ (recA E e p asg body l D fn .busy none) (recA E e p asg body l D fn .done (some .ret)) (fun m hm=>⟨hun _ _ m hm,hun _ _ m hm,hun _ _ m hm⟩) hN' hh' (by rw [hh];exact hu) hbd
   have hJ:∀ R,roundJ E' (n0+1) (recA E e p asg body l D fn .ready none) (recA E e p asg body l D fn .busy none) (recA E e p asg body l D fn .done (some .ret)) R=roundI E' (n0+1) l fn #[p] asg body D (slots E.N e) R:=fun R=>by
    funext x ds e
    cases x<;>rfl
   rw [hJ,hh'] at this
   simpa [recA] using this }
 refine (hit l [qdz D,recA E e p asg body l D fn .ready none] _ (n0+2) Y).mono ?_
 rintro r h' ⟨rfl,rfl⟩
 refine ⟨⟨_,rfl⟩,?_⟩
 rcases hsc:scan stop xs k with ⟨j,_ | x⟩
 ·
  refine ⟨.ready,none,by simp,?_,?_⟩
  ·
   simp only [finY]
   rw [List.getElem?_append_right (by rw [len,len];omega),len,len,show n0+1 - n0=1 by omega]
   rfl
  ·
   simp only [finY]
   rw [List.set_append_right _ _ (by rw [len,len];omega),len,len,show n0+1 - n0=1 by omega]
   exact hdone j D _ hsc
 ·
  refine ⟨.done,some .ret,by simp,?_,?_⟩
  ·
   simp only [finY]
   rw [List.getElem?_append_right (by rw [len,lenX];omega),len,lenX,show n0+1 - n0=1 by omega]
   rfl
  ·
   simp only [finY]
   rw [List.set_append_right _ _ (by rw [len,lenX];omega),len,lenX,show n0+1 - n0=1 by omega]
   exact awpI_ret (hstop j x D _ hsc)
end
end Go.Cw

namespace Go.Cw
open Go Go.Abs
section
variable {fmt:Int→qad}
theorem round_next {procs:List Proc} {s:List Pr} {l:List Txn} {n:Nat} (h:n<l.length):qbb fmt procs s (l.take (n+1))=((oneS fmt procs (qbb fmt procs s (l.take n)).1 l[n]).1,(qbb fmt procs s (l.take n)).2++[(oneS fmt procs (qbb fmt procs s (l.take n)).1 l[n]).2]):=by
 rw [List.take_succ_eq_append_getElem h,round_snoc]
theorem runIn_one {procs:List Proc} {l:List Txn} {s:List Pr} (hB:BatchIn fmt procs l) (hs:rngL s) {t:Txn} (ht:t∈l):∀ p,findP procs t=some p→RunIn fmt p t.args s:=fun p hp=>⟨hB.fmt,hB.body p (findP_mem hp).1,hB.args t ht,hs⟩
theorem qdf {procs:List Proc} {s:List Pr} {l:List Txn} (hs:rngL s) (hB:BatchIn fmt procs l) (n:Nat) (h:n≤l.length):rngL (qbb fmt procs s (l.take n)).1∧(qbb fmt procs s (l.take n)).1.length≤s.length+64 * n∧(qbb fmt procs s (l.take n)).2.length=n:=by
 have h2:=round_ok hs (l.take n) (hB.take n)
 have h3:=h2.len
 have h4:=h2.cnt
 rw [List.length_take,Nat.min_eq_left h] at h3 h4
 exact ⟨h2.rng,h3,h4⟩
end
end Go.Cw

namespace Go.Cw
open Go Go.Abs
def effF (f:Foot):Foot:=if qd7 f.all f.reads f.writes=true then f else ⟨true,[],[]⟩
def depS (a b:Foot):Bool:=if b.all=true then true else if a.all=true then decide (0<b.reads.length) else a.writes.any fun k=>hasK b.reads k
def depsOf (l:List Foot) (j:Nat) (f:Foot):List Nat:=(List.range j).filter fun i=>match l[i]? with | some g=>depS (effF g) (effF f) | none=>false
section
variable {fmt:Int→qad}
def serSt (fmt:Int→qad) (procs:List Proc) (s:List Pr) (l:List Txn) (i:Nat):List Pr:=(qbb fmt procs s (l.take i)).1
def serEf (fmt:Int→qad) (procs:List Proc) (s:List Pr) (l:List Txn) (i:Nat) (t:Txn):Eff:=(oneS fmt procs (serSt fmt procs s l i) t).2
structure MvIn (fmt:Int→qad) (procs:List Proc) (s:List Pr) (l:List Txn) (effs:List Eff) (done:List Bool):Prop where
 le:effs.length=l.length
 ld:done.length=l.length
 ok:∀ i (h:i<l.length),done.getD i false=true→effs[i]?=some (serEf fmt procs s l i l[i])
section
variable {procs:List Proc} {s:List Pr} {l:List Txn} {effs:List Eff} {done:List Bool}
end
end
end Go.Cw

namespace Go.Cw
open Go Go.Abs
def depsL (fs:List Foot) (j:Nat):List Nat:=match fs[j]? with | some f=>depsOf fs j f | none=>[]
section
variable (fmt:Int→qad)
end
structure MvJ (fmt:Int→qad) (procs:List Proc) (s:List Pr) (l:List Txn) (n:Nat) (x:List Eff×List Bool×List Nat):Prop where
 inv:MvIn fmt procs s l x.1 x.2.1
 len:x.2.2.length=n
 nod:x.2.2.Nodup
 mem:∀ j,x.2.1.getD j false=true↔j∈x.2.2
 lt:∀ j∈x.2.2,j<l.length
 dep:∀ a (h:a<x.2.2.length),∀ i∈depsL (l.map (·.ft)) x.2.2[a],i∈x.2.2.take a
section
variable {fmt:Int→qad} {procs:List Proc} {s:List Pr} {l:List Txn} {choices:List Int}
end
end Go.Cw

namespace Go.Cw
open Go Go.Abs
section
variable {fmt:Int→qad} {procs:List Proc} {s:List Pr}
end
end Go.Cw

namespace Go.Cw
open Go Go.Abs
section
variable {fmt:Int→qad} {p:Proc} {args:List V} {st:List Pr}
abbrev ftAll:Foot:=⟨true,[],[]⟩
abbrev ftOf (e:Eff):Foot:=⟨false,e.reads,e.puts⟩
theorem run_status (ft:Foot):(runS fmt p args st ft).status=1∨(runS fmt p args st ft).status=2∨(runS fmt p args st ft).status=3:=by
 by_cases h:(runS fmt p args st ft).status=1
 · exact .inl h
 ·
  have:=(run_else h).2.2
  rcases this with h | h
  · exact .inr (.inl h)
  · exact .inr (.inr h.1)
end
section
variable (fmt:Int→qad)
def reconS (p:Proc) (args:List V) (st:List Pr):Foot×Int :=
 if qbj p≠0∨qcf p args≠0∨qbq st=false then (⟨false,[],[]⟩,1) else (ftOf (runS fmt p args st ftAll),0)
def qdb (procs:List Proc) (s:List Pr) (t:Txn):Txn :=
 if 2≤t.att then ⟨t.id,t.proc,t.args,ftAll,3⟩
 else match findN procs t.proc with
  | none=>⟨t.id,t.proc,t.args,ftAll,2⟩
  | some p=>⟨t.id,t.proc,t.args,if (reconS fmt p t.args s).2=0 then (reconS fmt p t.args s).1 else ftAll,2⟩
structure Res where
 id:Int
 att:Int
 status:Int
 code:Int
 out:List V
def Res.c (r:Res):List AV:=[I r.id,I r.att,I r.status,I r.code,.slice (r.out.map V.c)]
def resOf (t:Txn) (e:Eff):Res:=⟨t.id,t.att,e.status,e.code,e.out⟩
def Res.z:Res:=⟨0,0,0,0,[]⟩
def qcm (procs:List Proc) (s:List Pr):List Txn→List Eff→List Nat→List Res×List Txn×List Nat→List Res×List Txn×List Nat
 | t::l,e::es,i::is,(out,nx,lf)=>qcm procs s l es is (out.set i (resOf t e),if e.status=3 then (nx++[qdb fmt procs s t],lf++[i]) else (nx,lf))
 | _,_,_,x=>x
def batchF (procs:List Proc):Nat→List Pr→List Txn→List Nat→List Res→List Pr×List Res
 | 0,s,_,_,out=>(s,out)
 | f+1,s,l,at',out =>
  if l=[] then (s,out)
  else
   let r:=qbb fmt procs s l
   let y:=qcm fmt procs r.1 l r.2 at' (out,[],[])
   batchF procs f r.1 y.2.1 y.2.2 y.1
end
section
variable {fmt:Int→qad}
theorem one_status {procs:List Proc} {s:List Pr} {t:Txn}:(oneS fmt procs s t).2.status=1∨(oneS fmt procs s t).2.status=2∨(oneS fmt procs s t).2.status=3:=by
 unfold oneS
 split
 · exact .inr (.inl rfl)
 ·
  rename_i p hp
  have:=run_status (fmt:=fmt) (p:=p) (args:=t.args) (st:=s) t.ft
  split<;>exact this
theorem one_all {procs:List Proc} {s:List Pr} {t:Txn} (h:t.ft.all=true):(oneS fmt procs s t).2.status≠3:=by
 unfold oneS
 split
 · simp [wrongE]
 ·
  rename_i p hp
  have:=run_all (fmt:=fmt) (p:=p) (args:=t.args) (st:=s) (ft:=t.ft) h
  split<;>exact this
theorem round_cnt (procs:List Proc) (s:List Pr):∀ l:List Txn,(qbb fmt procs s l).2.length=l.length:=by
 refine snoc_ind rfl fun l t ih=>?_
 rw [round_snoc]
 simp [ih]
end
end Go.Cw
