/- Part 25 of a proof: CwX, CwY, CwZ, CwSa -/
import Derived.Test.YtilhejdbiionhaaGreatDoorR24
set_option linter.all false

namespace Go.Cw
open Go Go.Abs
structure RM where
 vars:List Pr
 own:List Pr
 st:Int
 code:Int
 out:List V
 reads:List qac
 puts:List qac
 miss:qac
 steps:Int
def RM.c(C:Cfg)(m:RM):List AV:=[.slice (C.state.map Pr.c),Bo C.all,.slice (C.rd.map qa1),.slice (C.wr.map qa1),.slice (m.vars.map Pr.c),.slice (m.own.map Pr.c),I m.st,I m.code,.slice (m.out.map V.c),.slice (m.reads.map qa1),.slice (m.puts.map qa1),.slice [],S m.miss,I m.steps]
def RM.ab(m:RM)(c:Int):RM:={ m with st:=2,code:=c,out:=[] }
def RM.rst(m:RM)(k:qac):RM:={ m with st:=3,code:=0,out:=[],miss:=k }
def restP(l:List Pr)(k:qac):Nat:=if (l[posP k l]?).map Pr.key=some k then posP k l+1 else posP k l
def setR(l:List Pr)(p:Pr):List Pr:=l.take (posP p.key l)++p::l.drop (restP l p.key)
def qbl(C:Cfg)(m:RM)(k:qac):V×RM :=
 if keyOk k=false then(V.nil,m.ab 1004)
 else if qd1 m.puts k=true then(getP m.own k,m)
 else if C.all=false∧qd1 C.rd k=false then(V.nil,m.rst k)
 else(getP C.state k,{ m with reads:=withS m.reads k })
def storeR(C:Cfg)(m:RM)(k:qac)(v:V):RM :=
 if keyOk k=false then m.ab 1004
 else if C.all=false∧qd1 C.wr k=false then m.rst k
 else { m with puts:=withS m.puts k,own:=setR m.own ⟨k,v⟩ }
def emitR(m:RM)(v:V):RM:=if 16≤(m.out.length:Int)then m.ab 1007 else { m with out:=m.out++[v] }
def qdo(m:RM):RM:=if 16384<W64 (m.steps+1)then { m with steps:=W64 (m.steps+1) }.ab 1008 else { m with steps:=W64 (m.steps+1) }
def calcR(m:RM)(r:Int×Int):V×RM:=if r.2=4 then(V.nil,m.ab 1002)else if r.2≠0 then(V.nil,m.ab 1001)else(vI r.1,m)
def arithR(op a b:Int):Int×Int:=if op=4 then numAdd a b else if op=5 then qb4 a b else if op=6 then numMul a b else if op=7 then numDiv a b else numMod a b
def cmpR(a b:V):Int:=if a.n<b.n∨sLt a.s b.s=true then -1 else if eqVal a b=true then 0 else 1
def twoR(m:RM)(op:Int)(a b:V):V×RM :=
 if op=4∨op=5∨op=6∨op=7∨op=8 then(if a.k=1∧b.k=1 then calcR m (arithR op a.n b.n)else(V.nil,m.ab 1009))
 else if op=16 then(if a.k=3∧b.k=3 then(vB (decide (a.n=1)&&decide (b.n=1)),m)else(V.nil,m.ab 1009))
 else if op=17 then(if a.k=3∧b.k=3 then(vB (decide (a.n=1)||decide (b.n=1)),m)else(V.nil,m.ab 1009))
 else if op=19 then(if a.k=2∧b.k=2 then(if 64<W64 (a.s.size+b.s.size:Int)then(V.nil,m.ab 1006)else(vS (a.s++b.s),m))else(V.nil,m.ab 1009))
 else if (a.k=1∧b.k=1)∨(a.k=2∧b.k=2)∨(a.k=3∧b.k=3∧(op=10∨op=11))then(vB (cmpBy op (cmpR a b)),m)
 else(V.nil,m.ab 1009)
def wantR(op:Int):Int:=if op=18 then 3 else if op=9∨op=20 then 1 else 2
def oneR(C:Cfg)(m:RM)(op:Int)(a:V):V×RM :=
 if a.k≠wantR op then(V.nil,m.ab 1009)
 else if op=9 then calcR m (qdn a.n)
 else if op=18 then(vB (decide (a.n=0)),m)
 else if op=20 then(vS (C.fmt a.n),m)
 else if op=21 then(vI a.s.size,m)
 else
  let x:=qbl C m a.s
  if x.2.st≠0 then(V.nil,x.2)
  else if op=24 then(vB (!decide (x.1.k=0)),x.2)
  else if x.1.k=0 then(⟨if op=23 then 2 else 1,0,em⟩,x.2)
  else if x.1.k≠(if op=23 then 2 else 1)then(V.nil,x.2.ab 1003)
  else(x.1,x.2)
def opR(C:Cfg)(m:RM)(op:Int)(l:List V):V×RM :=
 match l with
 | [a]=>oneR C m op a
 | [a,b]=>twoR m op a b
 |_=>(V.nil,m.ab 1009)
section
variable (C:Cfg)
mutual
def evR:Ex→RM→V×RM
 | .mk op n s args,m =>
  if op=1 then(vI n,m)
  else if op=2 then(vS s,m)
  else if op=3 then(if hasP m.vars s=true then(getP m.vars s,m)else(V.nil,m.ab 1009))
  else
   let x:=evRL args m
   if x.2.st≠0 then(V.nil,x.2)else opR C x.2 op x.1
def evRL:List Ex→RM→List V×RM
 | [],m=>([],m)
 |e::l,m =>
  let x:=evR e m
  if x.2.st≠0 then([],x.2)
  else
   let y:=evRL l x.2
   (x.1::y.1,y.2)
end
theorem evR_eq(e:Ex)(m:RM):evR C e m=if e.op=1 then(vI e.n,m)
  else if e.op=2 then(vS e.s,m)
  else if e.op=3 then(if hasP m.vars e.s=true then(getP m.vars e.s,m)else(V.nil,m.ab 1009))
  else if (evRL C e.args m).2.st≠0 then(V.nil,(evRL C e.args m).2)else opR C (evRL C e.args m).2 e.op (evRL C e.args m).1:=by
 cases e;rw[evR];rfl
end
end Go.Cw

namespace Go.Cw
open Go Go.Abs
theorem qb3{α:Type}:∀(l:List (qac×α)) (s k:qac) (v:α),qbg (qbr l s v) k=if s=k then some v else qbg l k
 | [],s,k,v=>by simp only[qbr,qbg]
 |p::l,s,k,v=>by
  rw[qbr];split
  ·rename_i h;rw[qbg,qbg];subst h;split<;>rfl
  ·rename_i h;rw[qbg,qb3 l s k v,qbg];split
   ·rename_i h2;subst h2;rw[if_neg (fun e=>h e.symm)]
   ·rfl
theorem cmpL_lt:∀(a b:List UInt8),(Go.Lib.compareBytes a b<0↔Op.bytesLess a b=true)∧(Go.Lib.compareBytes a b=0↔a=b)
 | [],[]=>by simp[Go.Lib.compareBytes,Op.bytesLess]
 | [],_::_=>by simp[Go.Lib.compareBytes,Op.bytesLess]
 |_::_,[]=>by simp[Go.Lib.compareBytes,Op.bytesLess]
 |x::a,y::b=>by
  have ih:=cmpL_lt a b;simp only[Go.Lib.compareBytes,Op.bytesLess,List.cons.injEq];split
  ·rename_i h;have:x≠y:=by rintro rfl;exact absurd h (by simp)
   simp[h,this]
  ·rename_i h;split
   ·rename_i h2;have:x≠y:=by rintro rfl;exact absurd h2 (by simp)
    simp[h,this]
   ·rename_i h2;have:x=y:=by
     apply UInt8.toNat_inj.1;have h3:¬x.toNat<y.toNat:=h;have h4:¬y.toNat<x.toNat:=h2;omega
    subst this;simp[ih]
theorem cmpS_lt(a b:qac):(cmpS a b<0↔sLt a b=true)∧(cmpS a b=0↔a=b):=by
 have h:=cmpL_lt a.data.toList b.data.toList;have e:∀x:qac,x.toList=x.data.toList:=fun x=>by simp[ByteArray.toList_eq]
 refine⟨?_,?_⟩
 ·unfold cmpS sLt;rw[e,e];exact h.1
 ·unfold cmpS;rw[h.2];constructor
  ·intro he;have:a.data=b.data:=Array.toList_inj.1 he;cases a;cases b;simp_all
  ·rintro rfl;rfl
theorem setR_cons{p q:Pr}{l:List Pr}(h:sLt q.key p.key=true):setR (q::l) p=q::setR l p:=by
 unfold setR restP;simp only[posP,h,if_true,List.take_succ_cons,List.getElem?_cons_succ,List.cons_append];split<;>simp
theorem setR_map(l:List Pr)(p:Pr)(k:qac):hasP (setR l p) k=(decide (p.key=k)||hasP l k)∧getP (setR l p) k=if p.key=k then p.v else getP l k:=by
 induction l with
 |nil=>simp[setR,restP,posP,hasP,anyL,getP]
 |cons q l ih =>
  by_cases h:sLt q.key p.key=true
  ·rw[setR_cons h];have hne:=sLt_ne h;simp only[hasP,anyL,getP]at ih⊢;rw[ih.1,ih.2];refine⟨?_,?_⟩
   ·rw[←Bool.or_assoc,←Bool.or_assoc,Bool.or_comm (decide (q.key=k))]
   ·by_cases h1:q.key=k
    ·have:¬p.key=k:=fun e=>hne (h1.trans e.symm);simp[h1,this]
    ·simp[h1]
  ·have e0:posP p.key (q::l)=0:=by simp[posP,h]
   by_cases h1:q.key=p.key
   ·have:setR (q::l) p=p::l:=by simp[setR,restP,e0,h1]
    rw[this];simp only[hasP,anyL,getP,h1];refine⟨?_,?_⟩
    ·cases decide (p.key=k)<;>simp
    ·split<;>rfl
   ·have:setR (q::l) p=p::q::l:=by simp[setR,restP,e0,h1]
    rw[this];simp only[hasP,anyL,getP];exact⟨trivial,trivial⟩
theorem setR_keys(l:List Pr)(p:Pr):keysP (setR l p)=withS (keysP l) p.key:=by
 have hp:=posP_eq p.key l;unfold setR withS restP;rw[←hp];have hg:(keysP l)[posP p.key l]?=(l[posP p.key l]?).map Pr.key:=by simp[keysP]
 rw[hg];split
 ·rename_i h;obtain⟨q,hq,hk⟩:=Option.map_eq_some_iff.1 h;obtain⟨hlt,rfl⟩:=List.getElem?_eq_some_iff.1 hq;have e:l=l.take (posP p.key l)++l[posP p.key l]::l.drop (posP p.key l+1):=by
   rw[List.getElem_cons_drop,List.take_append_drop]
  conv=>rhs;rw[e]
  simp only[keysP,List.map_append,List.map_cons,hk]
 ·simp[keysP]
structure Sim(s:MS)(m:RM):Prop where
 vars:∀k,qbg s.vars k=if hasP m.vars k=true then some (getP m.vars k)else none
 own:∀k,qbg s.own k=if qd1 s.puts k=true then some (getP m.own k)else none
 keys:keysP m.own=s.puts
 out:m.out=s.out
 reads:m.reads=s.reads
 puts:m.puts=s.puts
 steps:m.steps=s.steps
 st:m.st=0
 code:m.code=0
 miss:m.miss=em
structure Dead(z:Stop)(s:MS)(m:RM):Prop where
 reads:m.reads=s.reads
 puts:m.puts=s.puts
 steps:m.steps=s.steps
 out:m.out=[]
 st:m.st=z.status
 code:m.code=z.code
 miss:m.miss=z.miss
 ne:z.status≠0
theorem Sim.ab{s:MS}{m:RM}(h:Sim s m)(c:Int):Dead (ab c) s (m.ab c):=⟨h.reads,h.puts,h.steps,rfl,rfl,rfl,h.miss,by simp[Go.Cw.ab]⟩
theorem Sim.rst{s:MS}{m:RM}(h:Sim s m)(k:qac):Dead (rst k) s (m.rst k):=⟨h.reads,h.puts,h.steps,rfl,rfl,rfl,rfl,by simp[Go.Cw.rst]⟩
def EvSim(x:EV×MS)(y:V×RM):Prop:=match x.1 with
 | .ok v=>y.1=v∧Sim x.2 y.2
 | .error z=>y.1=V.nil∧Dead z x.2 y.2
theorem EvSim.ok{v:V}{s:MS}{m:RM}(h:Sim s m):EvSim (.ok v,s) (v,m):=⟨rfl,h⟩
theorem EvSim.ab{c:Int}{s:MS}{m:RM}(h:Sim s m):EvSim (.error (ab c),s) (V.nil,m.ab c):=⟨rfl,h.ab c⟩
theorem hasK_with(l:List qac)(k x:qac):qd1 (withS l k) x=(decide (k=x)||qd1 l x):=by
 have h:∀a:Bool,∀P:Prop,(a=true↔P)→∀b:Bool,(b=true↔P)→a=b:=by
  intro a P h b g;cases a<;>cases b<;>simp_all
 refine h _ (x=k∨x∈l) (hasK_iff.trans withS_mem) _ ?_;simp only[Bool.or_eq_true,decide_eq_true_eq,hasK_iff];constructor<;>(rintro(rfl|h)<;>simp_all)
section
variable {C:Cfg}
theorem sim_fetch{s:MS}{m:RM}(h:Sim s m)(k:qac):EvSim (qc0 C k s) (qbl C m k):=by
 unfold qc0 qbl;split
 ·exact .ab h
 have ho:=h.own k;rw[h.puts];by_cases hp:qd1 s.puts k=true
 ·rw[if_pos hp]at ho;rw[ho,if_pos hp];exact .ok h
 ·rw[if_neg hp]at ho;rw[ho,if_neg hp];simp only;split
  ·exact⟨rfl,h.rst k⟩
  ·exact⟨rfl,⟨h.vars,h.own,h.keys,h.out,by simp only[h.reads],rfl,h.steps,h.st,h.code,h.miss⟩⟩
def StSim(x:Except Stop Unit×MS)(m:RM):Prop:=match x.1 with
 | .ok _=>Sim x.2 m
 | .error z=>Dead z x.2 m
theorem sim_store{s:MS}{m:RM}(h:Sim s m)(k:qac)(v:V):StSim (qcq C k v s) (storeR C m k v):=by
 unfold qcq storeR;split
 ·exact h.ab _
 split
 ·exact h.rst k
 ·refine⟨h.vars,fun x=>?_,?_,h.out,h.reads,by simp only[h.puts],h.steps,h.st,h.code,h.miss⟩
  ·simp only;rw[qb3,(setR_map _ _ _).2,hasK_with];by_cases hx:k=x
   ·simp[hx]
   ·simp[hx,h.own x]
  ·simp only;rw[setR_keys,h.keys]
theorem sim_emit{s:MS}{m:RM}(h:Sim s m)(hl:s.out.length≤16)(v:V):StSim (emitS v s) (emitR m v):=by
 unfold emitS emitR;rw[h.out];by_cases hk:s.out.length=16
 ·rw[if_pos hk,if_pos (by omega)];exact h.ab _
 ·rw[if_neg hk,if_neg (by omega)];exact⟨h.vars,h.own,h.keys,by simp only,h.reads,h.puts,h.steps,h.st,h.code,h.miss⟩
theorem sim_tick{s:MS}{m:RM}(h:Sim s m)(hs:s.steps≤16384):StSim (tickS s) (qdo m):=by
 unfold tickS qdo;have e:W64 (m.steps+1)=(s.steps+1:Nat):=by rw[h.steps,W64_id (by omega) (by omega)];simp
 rw[e];have h':Sim { s with steps:=s.steps+1 } { m with steps:=((s.steps+1:Nat):Int) }:=⟨h.vars,h.own,h.keys,h.out,h.reads,h.puts,rfl,h.st,h.code,h.miss⟩
 by_cases hk:16384<s.steps+1
 ·rw[if_pos hk,if_pos (by omega)];exact h'.ab 1008
 ·rw[if_neg hk,if_neg (by omega)];exact h'
theorem sim_calc{s:MS}{m:RM}(h:Sim s m)(r:Int×Int):EvSim (qcs r,s) (calcR m r):=by
 unfold qcs calcR;by_cases h0:r.2=0
 ·rw[if_pos h0,if_neg (by omega),if_neg (by omega)];exact .ok h
 ·rw[if_neg h0];by_cases h4:r.2=4
  ·rw[if_pos h4,if_pos h4];exact .ab h
  ·rw[if_neg h4,if_neg h4,if_pos h0];exact .ab h
theorem okX_1{v:V}(h:okX v)(hk:v.k=1):v.s=em:=by
 unfold okX varOk valOk at h;simpa[hk]using h
theorem okX_2{v:V}(h:okX v)(hk:v.k=2):v.n=0∧(v.s.size:Int)≤64:=by
 have:=okX_plain h hk;unfold qa3 at this;unfold okX varOk valOk at h;simp[hk]at h;simp only[Bool.and_eq_true,decide_eq_true_eq]at this;exact⟨h.1,this.2⟩
theorem okX_3{v:V}(h:okX v)(hk:v.k=3):v.s=em∧(v.n=0∨v.n=1):=by
 unfold okX varOk at h;simp[hk]at h;exact⟨h.2,h.1⟩
theorem eqVal_iff(a b:V):eqVal a b=true↔a.k=b.k∧a.n=b.n∧a.s=b.s:=by
 simp[eqVal]
theorem cmpBy_sign{op c d:Int}(h1:c<0↔d<0)(h2:c=0↔d=0):cmpBy op c=cmpBy op d:=by
 unfold cmpBy;have h3:0<c↔0<d:=by omega
 have h4:c≤0↔d≤0:=by omega
 have h5:0≤c↔0≤d:=by omega
 simp only[h1,h2,h3,h4,h5]
theorem cmp_sign{a b:V}(ha:okX a)(hb:okX b)(hk:a.k=b.k)(h:a.k=1∨a.k=2∨a.k=3):(cmpV a b<0↔cmpR a b<0)∧(cmpV a b=0↔cmpR a b=0):=by
 have hc:=cmpS_lt a.s b.s;have hee:=cmpS_lt em em;have hirr:=sLt_irrefl em;have key:(a.s=b.s∧a.s=em)∨a.n=b.n:=by
  rcases h with h|h|h
  ·exact .inl ⟨by rw[okX_1 ha h,okX_1 hb (by omega)],okX_1 ha h⟩
  ·exact .inr (by rw[(okX_2 ha h).1,(okX_2 hb (by omega)).1])
  ·exact .inl ⟨by rw[(okX_3 ha h).1,(okX_3 hb (by omega)).1],(okX_3 ha h).1⟩
 have e1:=eqVal_iff a b;unfold cmpV cmpR cmpI;rw[if_neg (by omega)];rcases key with⟨k1,k2⟩|k
 ·have hl:sLt a.s b.s=false:=by rw[←k1,sLt_irrefl]
  have h0:cmpS a.s b.s=0:=hc.2.2 k1;rw[hl,h0];by_cases hn:a.n=b.n
  ·have:eqVal a b=true:=e1.2 ⟨hk,hn,k1⟩;simp[hn,this]
  ·have:¬eqVal a b=true:=fun h=>hn (e1.1 h).2.1;simp only[hn,if_false,this];by_cases h1:a.n<b.n
   ·simp[h1]
   ·have h2:b.n<a.n:=by omega
    simp[h1,h2]
 ·rw[if_pos k];by_cases hl:sLt a.s b.s=true
  ·have h1:=hc.1.2 hl;simp only[hl,or_true,if_true];have h2:¬cmpS a.s b.s=0:=by omega
   simp[h1,h2]
  ·have h1:¬cmpS a.s b.s<0:=fun h=>hl (hc.1.1 h);have h2:¬a.n<b.n:=by omega
   simp only[hl,or_false];by_cases he:a.s=b.s
   ·have h3:=hc.2.2 he;have:eqVal a b=true:=e1.2 ⟨hk,k,he⟩;simp[this,h3,h2]
   ·have h3:¬cmpS a.s b.s=0:=fun h=>he (hc.2.1 h);have:¬eqVal a b=true:=fun h=>he (e1.1 h).2.2;rw[if_neg (by simp[h2]),if_neg this];exact⟨⟨fun h=>(h1 h).elim,fun h=>by omega⟩,⟨fun h=>(h3 h).elim,fun h=>by omega⟩⟩
theorem sim_two{s:MS}{m:RM}(h:Sim s m){op:Int}{a b:V}(ha:okX a)(hb:okX b)(hop:(4≤op∧op≤8)∨(10≤op∧op≤17)∨op=19):EvSim (binS op a b,s) (twoR m op a b):=by
 unfold binS twoR;by_cases h1:op=4∨op=5∨op=6∨op=7∨op=8
 ·rw[if_pos h1,if_pos h1];by_cases hk:a.k=1∧b.k=1
  ·rw[if_pos hk,if_pos hk];unfold qel arithR
   repeat' split
   all_goals exact sim_calc h _
  ·rw[if_neg hk,if_neg hk];exact .ab h
 rw[if_neg h1,if_neg h1];by_cases h2:op=16
 ·rw[if_pos h2,if_pos h2];split
  ·exact .ok h
  ·exact .ab h
 rw[if_neg h2,if_neg h2];by_cases h3:op=17
 ·rw[if_pos h3,if_pos h3];split
  ·exact .ok h
  ·exact .ab h
 rw[if_neg h3,if_neg h3];by_cases h4:op=19
 ·rw[if_pos h4,if_pos h4];by_cases hk:a.k=2∧b.k=2
  ·rw[if_pos hk,if_pos hk];unfold textS;have l1:=(okX_2 ha hk.1).2;have l2:=(okX_2 hb hk.2).2;have e:W64 (a.s.size+b.s.size:Int)=((a.s++b.s).size:Int):=by
    rw[ByteArray.size_append,W64_id (by omega) (by omega)];simp
   rw[e];split
   ·exact .ab h
   ·exact .ok h
  ·rw[if_neg hk,if_neg hk];exact .ab h
 rw[if_neg h4,if_neg h4];unfold compS;by_cases hk:a.k=b.k∧(a.k=1∨a.k=2∨(a.k=3∧op≤11))
 ·rw[if_pos hk,if_pos (by omega)];have hc:=cmp_sign ha hb hk.1 (by omega);rw[cmpBy_sign hc.1 hc.2];exact .ok h
 ·rw[if_neg hk,if_neg (by omega)];exact .ab h
end
end Go.Cw

namespace Go.Cw
open Go Go.Abs
section
variable {C:Cfg}
theorem EvSim.okI{x:EV}{v w:V}{s:MS}{m:RM}(h:Sim s m)(hx:x=.ok v)(hw:w=v):EvSim (x,s) (w,m):=by subst hx hw;exact⟨rfl,h⟩
theorem sim_got{s':MS}{m':RM}(h:Sim s' m')(op:Int)(v:V)(hop:op=22∨op=23∨op=24) :
  EvSim (gotS op v,s') (if op=24 then(vB (!decide (v.k=0)),m')else if v.k=0 then(⟨if op=23 then 2 else 1,0,em⟩,m')else if v.k≠(if op=23 then 2 else 1)then(V.nil,m'.ab 1003)else(v,m')):=by
 rcases hop with rfl|rfl|rfl
 ·by_cases h0:v.k=0
  ·simp only[gotS,h0];exact .okI h rfl rfl
  ·by_cases h1:v.k=1
   ·simp only[gotS,h1];exact .okI h rfl rfl
   ·simp[gotS,h0,h1];exact .ab h
 ·by_cases h0:v.k=0
  ·simp only[gotS,h0];exact .okI h rfl rfl
  ·by_cases h1:v.k=2
   ·simp only[gotS,h1];exact .okI h rfl rfl
   ·simp[gotS,h0,h1];exact .ab h
 ·simp only[gotS];exact .okI h rfl rfl
theorem sim_one{s:MS}{m:RM}(h:Sim s m){op:Int}{a:V}(ha:okX a)(hr:qcx a)(hf:∀n,i64 n→qa3 (C.fmt n)=true)(hop:op=9∨op=18∨op=20∨op=21∨op=22∨op=23∨op=24):EvSim (unS C op a s) (oneR C m op a):=by
 have hfe:a.k=2→(op=22∨op=23∨op=24)→EvSim (unS C op a s) (oneR C m op a):=by
  intro hk ho;have hf:=sim_fetch (C:=C) h a.s;have hw:wantR op=2:=by rcases ho with rfl|rfl|rfl<;>rfl
  have e1:unS C op a s=match qc0 C a.s s with
   |(.error z,m')=>(.error z,m')
   |(.ok v,m')=>(gotS op v,m'):=by
   unfold unS;rw[if_neg (by omega),if_neg (by omega),if_neg (by omega),if_neg (by omega),if_neg (by simp[hk])];rfl
  have e2:oneR C m op a=if (qbl C m a.s).2.st≠0 then(V.nil,(qbl C m a.s).2)else if op=24 then(vB (!decide ((qbl C m a.s).1.k=0)),(qbl C m a.s).2)else if (qbl C m a.s).1.k=0 then(⟨if op=23 then 2 else 1,0,em⟩,(qbl C m a.s).2)else if (qbl C m a.s).1.k≠(if op=23 then 2 else 1)then(V.nil,(qbl C m a.s).2.ab 1003)else((qbl C m a.s).1,(qbl C m a.s).2):=by
   unfold oneR;rw[if_neg (by rw[hw];simp[hk]),if_neg (by omega),if_neg (by omega),if_neg (by omega),if_neg (by omega)]
  rw[e1,e2];rcases hx:qc0 C a.s s with⟨z|v,s'⟩<;>rw[hx]at hf
  ·have hf:(qbl C m a.s).1=V.nil∧Dead z s' (qbl C m a.s).2:=hf;rw[if_pos (by rw[hf.2.st];exact hf.2.ne)];exact⟨rfl,hf.2⟩
  ·have hf:(qbl C m a.s).1=v∧Sim s' (qbl C m a.s).2:=hf;rw[if_neg (by rw[hf.2.st];simp),hf.1];exact sim_got hf.2 op v ho
 rcases hop with rfl|rfl|rfl|rfl|ho
 ·by_cases hk:a.k=1
  ·simpa[unS,oneR,wantR,hk]using sim_calc h (qdn a.n)
  ·simpa[unS,oneR,wantR,hk]using(EvSim.ab (c:=1009) h)
 ·by_cases hk:a.k=3
  ·simpa[unS,oneR,wantR,hk]using(EvSim.ok (v:=vB (decide (a.n=0))) h)
  ·simpa[unS,oneR,wantR,hk]using(EvSim.ab (c:=1009) h)
 ·by_cases hk:a.k=1
  ·have hp:=hf _ hr.1;unfold qa3 at hp;simp only[Bool.and_eq_true,decide_eq_true_eq]at hp;have ht:textS (C.fmt a.n)=.ok (vS (C.fmt a.n)):=by unfold textS;rw[if_neg (by omega)]
   simpa[unS,oneR,wantR,hk,ht]using(EvSim.ok (v:=vS (C.fmt a.n)) h)
  ·simpa[unS,oneR,wantR,hk]using(EvSim.ab (c:=1009) h)
 ·by_cases hk:a.k=2
  ·simpa[unS,oneR,wantR,hk]using(EvSim.ok (v:=vI a.s.size) h)
  ·simpa[unS,oneR,wantR,hk]using(EvSim.ab (c:=1009) h)
 ·by_cases hk:a.k=2
  ·exact hfe hk ho
  ·have e1:unS C op a s=(.error (ab 1009),s):=by
    unfold unS;rw[if_neg (by omega),if_neg (by omega),if_neg (by omega),if_neg (by omega),if_pos (by simp[hk])]
   have hw:wantR op=2:=by rcases ho with rfl|rfl|rfl<;>rfl
   have e2:oneR C m op a=(V.nil,m.ab 1009):=by
    unfold oneR;rw[if_pos (by rw[hw];simp[hk])]
   rw[e1,e2];exact .ab h
theorem sim_op{s:MS}{m:RM}(h:Sim s m){op:Int}{l:List V}(hl:∀v∈l,okX v)(hr:∀v∈l,qcx v)(hf:∀n,i64 n→qa3 (C.fmt n)=true)(har:(l.length:Int)=qb0 op):EvSim (opS C op l s) (opR C m op l):=by
 match l with
 | []=>exact .ab h
 | [a] =>
  refine sim_one h (hl a (by simp)) (hr a (by simp)) hf ?_;unfold qb0 at har;simp at har;split at har
  ·omega
  split at har
  ·omega
  split at har
  ·omega
  ·omega
 | [a,b] =>
  refine sim_two h (hl a (by simp)) (hl b (by simp)) ?_;unfold qb0 at har;simp at har;split at har
  ·omega
  split at har
  ·omega
  split at har
  ·omega
  ·omega
 |a::b::c::r=>exact .ab h
section
variable (hV:vC C) (hC:rngC C)
include hV hC
mutual
theorem sim_ev:∀(e:Ex) (d:Nat) (s:MS) (m:RM),chkE e d=0→rngX e→vM s→rngM s→ascS s.reads→Sim s m→EvSim (evE C e s) (evR C e m)
 | .mk op n x args,d,s,m,hc,hR,hM,hr,ha,h=>by
  have har:=qd5 hc;have hR':=(qdd _).1 hR;simp only[Ex.args,Ex.op,Ex.n,Ex.s]at har hR';rw[chkE]at hc;by_cases hn:qcb op n x args.length d=0
  ·rw[if_pos hn]at hc;rw[evE,evR];by_cases h1:op=1
   ·rw[if_pos h1,if_pos h1];exact .ok h
   rw[if_neg h1,if_neg h1];by_cases h2:op=2
   ·rw[if_pos h2,if_pos h2];exact .ok h
   rw[if_neg h2,if_neg h2];by_cases h3:op=3
   ·rw[if_pos h3,if_pos h3];have hv:=h.vars x;by_cases hp:hasP m.vars x=true
    ·rw[if_pos hp]at hv;rw[hv,if_pos hp];exact .ok h
    ·rw[if_neg hp]at hv;rw[hv,if_neg hp];exact .ab h
   rw[if_neg h3,if_neg h3];have hS:=sim_evL args (d+1) s m hc hR'.2 hM hr ha h;have hE:=evL_ok hC args s hR'.2 hr ha;rcases hL:evL C args s with⟨z|l,s'⟩
   ·rw[hL]at hS;have hS:Dead z s' (evRL C args m).2:=hS;simp only;rw[if_pos (by rw[hS.st];exact hS.ne)];exact⟨rfl,hS⟩
   ·rw[hL]at hS hE;have hS:(evRL C args m).1=l∧Sim s' (evRL C args m).2:=hS;simp only;rw[if_neg (by rw[hS.2.st];simp),hS.1];have hl:=okX_evL hV hC args (d+1) s s' l hc hR'.2 hM hr ha hL;exact sim_op hS.2 hl (hE.2 l rfl) hV.fmt (by rw[evL_len hL];exact har)
  ·rw[if_neg hn]at hc;exact(hn hc).elim
theorem sim_evL:∀(l:List Ex) (d:Nat) (s:MS) (m:RM),chkL l d=0→(∀x∈l,rngX x)→vM s→rngM s→ascS s.reads→Sim s m →
  (match (evL C l s).1 with
   | .ok r=>(evRL C l m).1=r∧Sim (evL C l s).2 (evRL C l m).2
   | .error z=>Dead z (evL C l s).2 (evRL C l m).2)
 | [],d,s,m,_,_,_,_,_,h=>by rw[evL,evRL];exact⟨rfl,h⟩
 |e::l,d,s,m,hc,hR,hM,hr,ha,h=>by
  rw[chkL]at hc;split at hc
  ·rename_i h0;have hE':=evE_ok hC e s (hR e (by simp)) hr ha;have hS:=sim_ev e d s m h0 (hR e (by simp)) hM hr ha h;rw[evL,evRL];rcases hE:evE C e s with⟨z|v,s'⟩
   ·rw[hE]at hS;have hS:(evR C e m).1=V.nil∧Dead z s' (evR C e m).2:=hS;simp only;rw[if_pos (by rw[hS.2.st];exact hS.2.ne)];exact hS.2
   ·rw[hE]at hS hE';have hS:(evR C e m).1=v∧Sim s' (evR C e m).2:=hS;simp only;rw[if_neg (by rw[hS.2.st];simp)];have hT:=sim_evL l d s' (evR C e m).2 hc (fun x hx=>hR x (by simp[hx])) (vM_ev hE'.1 hM) (hE'.1.rng hr) hE'.1.asc hS.2;rcases hL:evL C l s' with⟨z|r,s''⟩
    ·rw[hL]at hT;exact hT
    ·rw[hL]at hT;have hT:(evRL C l (evR C e m).2).1=r∧Sim s'' (evRL C l (evR C e m).2).2:=hT;exact⟨by rw[hS.1,hT.1],hT.2⟩
  ·contradiction
end
end
end
end Go.Cw

namespace Go.Cw
open Go Go.Abs
abbrev Vis:=List (qac×Int)
def subV(a b:Vis):Prop:=∀k ty,qbg a k=some ty→qbg b k=some ty
theorem subV.refl(a:Vis):subV a a:=fun _ _ h=>h
theorem subV.trans{a b c:Vis}(h:subV a b)(g:subV b c):subV a c:=fun k ty e=>g k ty (h k ty e)
def qcj{α:Type}(l:List (qac×α)):List qac:=l.map (·.1)
theorem qcy{α:Type}:∀{l:List (qac×α)} {k:qac},qbg l k=none↔k∉qcj l
 | [],k=>by simp[qbg,qcj]
 |p::l,k=>by
  have ih:=qcy (l:=l) (k:=k);simp only[qbg,qcj,List.map_cons,List.mem_cons,not_or]at ih⊢;by_cases h:p.1=k
  ·simp[h]
  ·rw[if_neg h,ih];exact⟨fun g=>⟨fun e=>h e.symm,g⟩,fun g=>g.2⟩
theorem qcr{α:Type}:∀(l:List (qac×α)) (k:qac) (v:α) (x:qac),x∈qcj (qbr l k v)↔x=k∨x∈qcj l
 | [],k,v,x=>by simp[qbr,qcj]
 |p::l,k,v,x=>by
  have ih:=qcr l k v x;rw[qbr];split
  ·rename_i h;subst h;simp[qcj]
  ·simp only[qcj,List.map_cons,List.mem_cons]at ih⊢;rw[ih];constructor
   ·rintro(h|h|h)<;>simp[h]
   ·rintro(h|h|h)<;>simp[h]
theorem nodV_set{α:Type}:∀(l:List (qac×α)) (k:qac) (v:α),(qcj l).Nodup→(qcj (qbr l k v)).Nodup
 | [],k,v,_=>by simp[qbr,qcj]
 |p::l,k,v,h=>by
  have h':p.1∉qcj l∧(qcj l).Nodup:=List.nodup_cons.1 h;rw[qbr];split
  ·rename_i e;subst e;exact h
  ·rename_i e;refine List.nodup_cons.2 ⟨fun hm=>?_,nodV_set l k v h'.2⟩;rcases(qcr l k v _).1 hm with e'|hm
   ·exact e e'
   ·exact h'.1 hm
theorem kDel_sub{α:Type}:∀(l:List (qac×α)) (k:qac),(kDel l k).Sublist l
 | [],_=>by simp[kDel]
 |p::l,k=>by
  rw[kDel];split
  ·exact List.sublist_cons_self _ _
  ·exact(kDel_sub l k).cons₂ _
theorem kGet_of_mem{α:Type}:∀{l:List (qac×α)} {k:qac} {v:α},(qcj l).Nodup→(k,v)∈l→qbg l k=some v
 |p::l,k,v,hd,h=>by
  have hd':p.1∉qcj l∧(qcj l).Nodup:=List.nodup_cons.1 hd;rw[qbg];rcases List.mem_cons.1 h with rfl|h
  ·simp
  ·rw[if_neg]
   ·exact kGet_of_mem hd'.2 h
   ·intro e;exact hd'.1 (List.mem_map.2 ⟨(k,v),h,e.symm⟩)
structure TOk(ts:TS):Prop where
 nod:(qcj ts.visible).Nodup
 sub:subV ts.visible ts.all
theorem TOk.del{ts:TS}(h:TOk ts)(k:qac):TOk ⟨kDel ts.visible k,ts.loops,ts.all⟩:=⟨h.nod.sublist ((kDel_sub _ _).map _),fun x ty e=>h.sub x ty (by
 have:=(kDel_sub ts.visible k).subset (kGet_mem e);exact kGet_of_mem h.nod this)⟩
theorem TOk.dels(b:List (qac×Bool))(a:Vis):∀(l:List St) {vis:Vis},TOk ⟨vis,b,a⟩→TOk ⟨delLets l vis,b,a⟩
 | [],vis,h=>h
 |t::l,vis,h=>by
  rw[delLets];refine TOk.dels b a l ?_;split
  ·exact h.del t.name
  ·exact h
theorem TOk.set{ts:TS}(h:TOk ts)(k:qac)(ty:Int)(lp:List (qac×Bool)):TOk ⟨qbr ts.visible k ty,lp,qbr ts.all k ty⟩:=⟨nodV_set _ _ _ h.nod,fun x u e=>by
 simp only at e⊢;rw[qb3]at e⊢;split at e
 ·rename_i hk;rw[if_pos hk];exact e
 ·rename_i hk;rw[if_neg hk];exact h.sub x u e⟩
mutual
def nmS:St→List qac
 | .mk op name _ _ _ body els=>(if op=1∨op=6 then [name]else [])++(nmL body++nmL els)
def nmL:List St→List qac
 | []=>[]
 |t::l=>nmS t++nmL l
end
theorem nmS_eq(t:St):nmS t=(if t.op=1∨t.op=6 then [t.name]else [])++(nmL t.body++nmL t.els):=by cases t;rw[nmS];rfl
structure TGo(ns:List qac)(ts ts':TS):Prop where
 ok:TOk ts'
 mono:subV ts.all ts'.all
 keys:∀k,k∈qcj ts'.all→k∈qcj ts.all∨k∈ns
theorem TGo.refl{ts:TS}(h:TOk ts)(ns:List qac):TGo ns ts ts:=⟨h,.refl _,fun _ h=>.inl h⟩
theorem TGo.mono'{ns ns':List qac}{ts ts':TS}(h:TGo ns ts ts')(hn:∀k∈ns,k∈ns'):TGo ns' ts ts':=⟨h.ok,h.mono,fun k hk=>(h.keys k hk).imp id (hn k)⟩
theorem TGo.trans{a b:List qac}{s t u:TS}(h:TGo a s t)(g:TGo b t u):TGo (a++b) s u:=⟨g.ok,h.mono.trans g.mono,fun k hk=>by
 rcases g.keys k hk with hk|hk
 ·rcases h.keys k hk with hk|hk
  ·exact .inl hk
  ·exact .inr (by simp[hk])
 ·exact .inr (by simp[hk])⟩
def fresh(ns:List qac)(ts:TS):Prop:=ns.Nodup∧∀k∈ns,k∉qcj ts.all
theorem TGo.set{ts:TS}(h:TOk ts){k:qac}(hk:k∉qcj ts.all)(ty:Int)(lp:List (qac×Bool)):TGo [k] ts ⟨qbr ts.visible k ty,lp,qbr ts.all k ty⟩:=⟨h.set k ty lp,fun x u e=>by
 simp only;rw[qb3];split
 ·rename_i hx;subst hx;rw[qcy.2 hk]at e;cases e
 ·exact e,fun x hx=>by
 rcases(qcr _ _ _ _).1 hx with h|h
 ·exact .inr (by simp[h])
 ·exact .inl h⟩
theorem fresh.left{a b:List qac}{ts:TS}(h:fresh (a++b) ts):fresh a ts:=⟨(List.nodup_append.1 h.1).1,fun k hk=>h.2 k (by simp[hk])⟩
theorem fresh.right{a b:List qac}{ts ts':TS}(h:fresh (a++b) ts)(g:TGo a ts ts'):fresh b ts':=⟨(List.nodup_append.1 h.1).2.1,fun k hk hm=>by
 rcases g.keys k hm with hm|hm
 ·exact h.2 k (by simp[hk]) hm
 ·exact(List.nodup_append.1 h.1).2.2 k hm k hk rfl⟩
theorem TGo.blk{ns:List qac}{l:List St}{f:TS→Int×TS}{ts:TS}(hf:(f ts).1=0→TGo ns ts (f ts).2)(h0:(qch l f ts).1=0):TGo ns ts (qch l f ts).2:=by
 unfold qch at h0⊢;split at h0
 ·rename_i h;exact(h h0).elim
 ·rename_i h;rw[if_neg h];have g:=hf (by simpa using h);exact⟨TOk.dels _ _ l (vis:=(f ts).2.visible) g.ok,g.mono,g.keys⟩
theorem go_step(t:St)(B E:TS→Int×TS)(ts:TS)(h:TOk ts)(hf:fresh (nmS t) ts)
  (hB:∀ts,TOk ts→fresh (nmL t.body) ts→(B ts).1=0→TGo (nmL t.body) ts (B ts).2)
  (hE:∀ts,TOk ts→fresh (nmL t.els) ts→(E ts).1=0→TGo (nmL t.els) ts (E ts).2)
  (h0:(stStep t B E ts).1=0):TGo (nmS t) ts (stStep t B E ts).2:=by
 rw[nmS_eq]at hf⊢;unfold stStep at h0⊢;by_cases he:(qc5 ts.visible t).2.2≠0
 ·rw[if_pos he]at h0;exact(he h0).elim
 rw[if_neg he]at h0⊢;by_cases h1:t.op=1
 ·rw[if_pos h1]at h0⊢;rw[if_pos (.inl h1)]at hf⊢;exact(TGo.set h (hf.2 t.name (by simp)) _ _).mono' (fun k hk=>by simp at hk;simp[hk])
 rw[if_neg h1]at h0⊢;by_cases h2:t.op=2
 ·rw[if_pos h2];rcases qbg ts.visible t.name with _|ty
  ·exact .refl h _
  ·exact .refl h _
 rw[if_neg h2]at h0⊢;by_cases h3:t.op=3
 ·rw[if_pos h3];exact .refl h _
 rw[if_neg h3]at h0⊢;by_cases h4:t.op=4
 ·rw[if_pos h4];exact .refl h _
 rw[if_neg h4]at h0⊢;by_cases h7:t.op=7
 ·rw[if_pos h7];exact .refl h _
 rw[if_neg h7]at h0⊢;by_cases h5:t.op=5
 ·rw[if_pos h5]at h0⊢;by_cases h6:(qc5 ts.visible t).1≠3
  ·rw[if_pos h6]at h0;simp at h0
  rw[if_neg h6]at h0⊢;by_cases h8:(qch t.body B ts).1≠0
  ·rw[if_pos h8]at h0;exact(h8 h0).elim
  rw[if_neg h8]at h0⊢;rw[if_neg (by omega),List.nil_append]at hf⊢;have g1:=TGo.blk (l:=t.body) (fun g=>hB ts h hf.left g) (by simpa using h8);have g2:=TGo.blk (l:=t.els) (fun g=>hE _ g1.ok (hf.right g1) g) h0;exact g1.trans g2
 rw[if_neg h5]at h0⊢;by_cases h6:t.op=6
 ·rw[if_pos h6]at h0⊢;by_cases h8:(qc5 ts.visible t).1≠1∨(qc5 ts.visible t).2.1≠1
  ·rw[if_pos h8]at h0;simp at h0
  rw[if_neg h8]at h0⊢;rw[if_pos (.inr h6)]at hf⊢;have g0:=TGo.set h (hf.2 t.name (by simp)) 1 (qbr ts.loops t.name true);have g1:=TGo.blk (l:=t.body) (fun g=>hB _ g0.ok (hf.right g0).left g) h0;have g2:=g0.trans g1;exact⟨g1.ok.del t.name,g2.mono,fun k hk=>by
   rcases g2.keys k hk with hk|hk
   ·exact .inl hk
   ·refine .inr ?_;simp only[List.mem_append]at hk⊢;rcases hk with hk|hk
    ·exact .inl hk
    ·exact .inr (.inl hk)⟩
 ·rw[if_neg h6];exact .refl h _
mutual
theorem go_st:∀(t:St) (ts:TS),TOk ts→fresh (nmS t) ts→(stT t ts).1=0→TGo (nmS t) ts (stT t ts).2
 | .mk op name mx a b body els,ts,h,hf,h0=>by
  rw[stT_eq]at h0⊢;exact go_step (.mk op name mx a b body els) _ _ ts h hf (fun ts=>go_seq body ts) (fun ts=>go_seq els ts) h0
theorem go_seq:∀(l:List St) (ts:TS),TOk ts→fresh (nmL l) ts→(qde l ts).1=0→TGo (nmL l) ts (qde l ts).2
 | [],ts,h,hf,h0=>by rw[qde];exact .refl h _
 |t::l,ts,h,hf,h0=>by
  rw[qde]at h0⊢;rw[nmL]at hf⊢;split at h0
  ·rename_i he;exact(he h0).elim
  rename_i he;rw[if_neg he];have g1:=go_st t ts h hf.left (by simpa using he);exact g1.trans (go_seq l _ g1.ok (hf.right g1) h0)
end
def tyS(G:Vis)(s:MS):Prop:=∀k v ty,qbg s.vars k=some v→qbg G k=some ty→v.k=ty
def qbd(op:Int):Int:=if 10≤op∧op≤15 then 3 else(qcm op).2
theorem kind_exact{r:Int×Int}{v:V}(h:qcs r=.ok v):v.k=1:=by
 unfold qcs at h;split at h
 ·cases h;rfl
 ·split at h<;>cases h
theorem kind_text{s:qac}{v:V}(h:textS s=.ok v):v.k=2:=by
 unfold textS at h;split at h
 ·cases h
 ·cases h;rfl
section
variable {C:Cfg}
theorem kind_op{op:Int}{l:List V}{s t:MS}{v:V}(har:(l.length:Int)=qb0 op)(h:opS C op l s=(.ok v,t)):v.k=qbd op:=by
 have hy:∀{x:EV} {u:MS},(x,u)=((.ok v,t):EV×MS)→x=.ok v:=fun h=>congrArg Prod.fst h;unfold opS at h;split at h
 ·rename_i a;have hop:op=9∨op=18∨op=20∨op=21∨op=22∨op=23∨op=24:=by
   unfold qb0 at har;simp at har;split at har
   ·omega
   split at har
   ·omega
   split at har
   ·omega
   ·omega
  rcases hop with rfl|rfl|rfl|rfl|ho
  ·have e:unS C 9 a s=(if a.k=1 then qcs (qdn a.n)else .error (ab 1009),s):=rfl;rw[e]at h;have h:=hy h;split at h
   ·exact kind_exact h
   ·cases h
  ·have e:unS C 18 a s=(if a.k=3 then .ok (vB (decide (a.n=0)))else .error (ab 1009),s):=rfl;rw[e]at h;have h:=hy h;split at h
   ·cases h;rfl
   ·cases h
  ·have e:unS C 20 a s=(if a.k=1 then textS (C.fmt a.n)else .error (ab 1009),s):=rfl;rw[e]at h;have h:=hy h;split at h
   ·exact kind_text h
   ·cases h
  ·have e:unS C 21 a s=(if a.k=2 then .ok (vI a.s.size)else .error (ab 1009),s):=rfl;rw[e]at h;have h:=hy h;split at h
   ·cases h;rfl
   ·cases h
  ·unfold unS at h;rw[if_neg (by omega),if_neg (by omega),if_neg (by omega),if_neg (by omega)]at h;by_cases hk:a.k≠2
   ·rw[if_pos hk]at h;cases h
   rw[if_neg hk]at h;rcases hx:qc0 C a.s s with⟨z|w,m'⟩
   ·rw[hx]at h;cases h
   ·rw[hx]at h;have h:=hy h;rcases ho with rfl|rfl|rfl
    ·have e:gotS 22 w=if w.k=0 then .ok (vI 0)else if w.k≠1 then .error (ab 1003)else .ok w:=by simp[gotS]
     rw[e]at h;split at h
     ·cases h;rfl
     split at h
     ·cases h
     ·rename_i h2;have hv:w=v:=by injection h
      have:w.k=1:=by omega
      rw[←hv,this];rfl
    ·have e:gotS 23 w=if w.k=0 then textS em else if w.k≠2 then .error (ab 1003)else .ok w:=by simp[gotS]
     rw[e]at h;split at h
     ·exact kind_text h
     split at h
     ·cases h
     ·rename_i h2;have hv:w=v:=by injection h
      have:w.k=2:=by omega
      rw[←hv,this];rfl
    ·have e:gotS 24 w=.ok (vB (!decide (w.k=0))):=by simp[gotS]
     rw[e]at h;cases h;rfl
 ·rename_i a b;have g:=hy h;clear h hy;have hop:(4≤op∧op≤8)∨(10≤op∧op≤17)∨op=19:=by
   unfold qb0 at har;simp at har;split at har
   ·omega
   split at har
   ·omega
   split at har
   ·omega
   ·omega
  unfold binS at g;by_cases ho:op=4∨op=5∨op=6∨op=7∨op=8
  ·rw[if_pos ho]at g;have:qbd op=1:=by unfold qbd qcm;rw[if_neg (by omega),if_pos (by omega)]
   rw[this];split at g
   ·unfold qel at g
    repeat' split at g
    all_goals exact kind_exact g
   ·cases g
  rw[if_neg ho]at g;by_cases h16:op=16
  ·rw[if_pos h16]at g;rw[h16];split at g
   ·cases g;rfl
   ·cases g
  rw[if_neg h16]at g;by_cases h17:op=17
  ·rw[if_pos h17]at g;rw[h17];split at g
   ·cases g;rfl
   ·cases g
  rw[if_neg h17]at g;by_cases h19:op=19
  ·rw[if_pos h19]at g;rw[h19];split at g
   ·exact kind_text g
   ·cases g
  rw[if_neg h19]at g;unfold compS at g;split at g
  ·cases g;unfold qbd;rw[if_pos (by omega)];rfl
  ·cases g
 ·cases h
theorem kind_ev{G vis:Vis}(hsub:subV vis G){e:Ex}{d:Nat}{ty:Int}(hc:chkE e d=0)(hof:ofE vis e=(ty,0)){s t:MS}{v:V}(hT:tyS G s)(h:evE C e s=(.ok v,t)):v.k=ty∧1≤ty∧ty≤3:=by
 have har:=qd5 hc;rw[ofE_eq]at hof;rw[evE_eq]at h;have hk:∀(op:Int),1≤(qcm op).2∧(qcm op).2≤3:=fun op=>by
  unfold qcm
  repeat' split
  all_goals decide
 by_cases h3:e.op=3
 ·rw[if_pos h3]at hof;rw[if_neg (by omega),if_neg (by omega),if_pos h3]at h;have h:=congrArg Prod.fst h;simp only at h;split at h
  ·rename_i w hw;cases h;unfold varT at hof;split at hof
   ·cases hof
   ·rename_i u hu;split at hof
    ·cases hof
    ·cases hof;exact⟨hT _ _ _ hw (hsub _ _ hu),by omega,by omega⟩
  ·cases h
 ·rw[if_neg h3]at hof;split at hof
  ·rename_i he;have:=congrArg Prod.snd hof;simp only at this;exact(he this).elim
  have hty:ty=qbd e.op:=by
   unfold qbd;split at hof
   ·rename_i ho;split at hof
    ·cases hof
    ·cases hof;rw[if_pos ho]
   ·rename_i ho;rw[if_neg ho];split at hof
    ·cases hof;rfl
    ·cases hof
  have hr:1≤ty∧ty≤3:=by
   rw[hty];unfold qbd;split
   ·omega
   ·exact hk _
  refine⟨?_,hr⟩;rw[hty];split at h
  ·rename_i h1;cases h;unfold qbd qcm;rw[if_neg (by omega),if_pos (.inl h1)];rfl
  split at h
  ·rename_i h1;cases h;unfold qbd qcm;rw[if_neg (by omega),if_neg (by omega),if_pos (.inl h1)];rfl
  split at h
  ·cases h
  ·rename_i l m' hL;exact kind_op (by rw[evL_len hL];exact har) h
end
end Go.Cw
