/- Part 22 of a proof: CwG, CwH, CwJ, CwK -/
import Derived.Test.YtilhejdbiionhaaGreatDoorR16
import Derived.Test.YtilhejdbiionhaaGreatDoorR21
set_option linter.all false

namespace Go.Cw
open Go Go.Abs
@[simp] theorem liftK_nilmap:liftK (.map none)=.val (.map none):=rfl
theorem kAV_mem{α:Type}{f:α→AV}{l:List (qac×α)}{a b:AV}(h:(a,b)∈kAV f l):∃s x,a=S s∧b=f x:=by
 rw[kAV,qb5,List.map_map,List.mem_map]at h;obtain⟨p,_,hp⟩:=h;simp only[Function.comp,Prod.mk.injEq]at hp;exact⟨p.1,p.2,hp.1.symm,hp.2.symm⟩
theorem kAV_und{α:Type}{f:α→AV}(hf:∀(n:Nat) (a:α),(f a).under n=true)(n:Nat)(l:List (qac×α)):(AObj.map (kAV f l)).under n=true:=by
 simp only[AObj.under,List.all_eq_true,Bool.and_eq_true];rintro⟨a,b⟩ hp;obtain⟨s,x,rfl,rfl⟩:=kAV_mem hp;exact⟨rfl,hf n x⟩
theorem okS_a{t:St}{d:Nat}(h:okS t d)(h0:t.op≠8):chkE t.a 1=0:=by
 have h1:=((qco t d).1 h).1;refine stmtErr_a h1 ?_;unfold qbo at h1;unfold qa8 at h1⊢;grind
theorem okS_b{t:St}{d:Nat}(h:okS t d)(h0:t.op=3∨t.op=6):chkE t.b 1=0:=by
 have h1:=((qco t d).1 h).1;refine stmtErr_b h1 ?_;unfold qa8;grind
def qch(l:List St)(f:TS→Int×TS)(s:TS):Int×TS:=if (f s).1≠0 then f s else(0,⟨delLets l (f s).2.visible,(f s).2.loops,(f s).2.all⟩)
def stStep(t:St)(B E:TS→Int×TS)(s:TS):Int×TS :=
 if (qc5 s.visible t).2.2≠0 then((qc5 s.visible t).2.2,s)
 else if t.op=1 then(0,s.decl t.name (qc5 s.visible t).1)
 else if t.op=2 then
  match qbg s.visible t.name with
  |none=>(11,s)
  |some ty=>(if qbg s.loops t.name=some true then 7 else if ty≠(qc5 s.visible t).1 then 10 else 0,s)
 else if t.op=3 then(if (qc5 s.visible t).1≠2∨(qc5 s.visible t).2.1=3 then 10 else 0,s)
 else if t.op=4 then(if (qc5 s.visible t).1≠2 then 10 else 0,s)
 else if t.op=7 then(if (qc5 s.visible t).1=3 then 10 else 0,s)
 else if t.op=5 then
  if (qc5 s.visible t).1≠3 then(10,s)
  else if (qch t.body B s).1≠0 then qch t.body B s else qch t.els E (qch t.body B s).2
 else if t.op=6 then
  if (qc5 s.visible t).1≠1∨(qc5 s.visible t).2.1≠1 then(10,s)
  else
   let x:=qch t.body B ⟨qbr s.visible t.name 1,qbr s.loops t.name true,qbr s.all t.name 1⟩
   (x.1,⟨kDel x.2.visible t.name,x.2.loops,x.2.all⟩)
 else(0,s)
mutual
def stT:St→TS→Int×TS
 | .mk op name mx a b body els,s=>stStep (.mk op name mx a b body els) (fun x=>qde body x) (fun x=>qde els x) s
def qde:List St→TS→Int×TS
 | [],s=>(0,s)
 |t::l,s=>if (stT t s).1≠0 then stT t s else qde l (stT t s).2
end
theorem stT_eq(t:St)(s:TS):stT t s=stStep t (qde t.body) (qde t.els) s:=by cases t;rw[stT];rfl
abbrev blkT(l:List St)(s:TS):Int×TS:=qch l (qde l) s
def dupM:List (qac×Bool)→List qac→Bool
 |_,[]=>false
 |met,x::l=>(qbg met x).getD false||dupM (qbr met x true) l
def declP(l:List Param)(s:TS):TS:=l.foldl (fun s x=>s.decl x.name x.ty) s
def qc1(p:Proc):Int :=
 if qcn p≠0 then qcn p
 else if p.params.any (fun x=>decide (x.ty=3))then 10
 else if dupM [] (qd4 p)then 8
 else(blkT p.body (declP p.params ⟨[],[],[]⟩)).1
def argOk(x:Param)(v:V):Bool:=(decide (v.k=1)&&decide (v.s=em)&&decide (x.ty=1))||(decide (v.k=2)&&decide (v.n=0)&&qa3 v.s&&decide (x.ty=2))
def argsOk:List Param→List V→Bool
 |x::l,v::r=>argOk x v&&argsOk l r
 |_,_=>true
def qcl(p:Proc)(args:List V):Int :=
 if qc1 p≠0∨args.length≠p.params.length then 1 else if argsOk p.params args then 0 else 10
mutual
def preE:Ex→List Ex
 | .mk op n s args=>.mk op n s args::preL args
def preL:List Ex→List Ex
 | []=>[]
 |e::l=>preE e++preL l
end
theorem preE_eq(e:Ex):preE e=e::preL e.args:=by cases e;rw[preE];rfl
def firstN:List Ex→Int→Int×Int×Bool
 | [],_=>(0,0,false)
 |e::l,k=>if nonDet e.op then(e.op,k,true)else firstN l (k+1)
def firstP(p:Proc):Int×Int×Bool:=if qcn p≠0 then(0,0,false)else firstN (preL (qcc p)) 0
def detErr(p:Proc):Int:=if qc1 p≠0 then qc1 p else if (firstP p).2.2 then 12 else 0
structure Cnt where
 st:Int
 ge:Int
 pu:Int
 em:Int
def Cnt.c(x:Cnt):List AV:=[I x.st,I x.ge,I x.pu,I x.em]
def mn(a b:Int):Int:=if b<a then b else a
def mx(a b:Int):Int:=if a<b then b else a
theorem if_mn(a b:Int):(if b<a then b else a)=mn a b:=rfl
theorem if_mx(a b:Int):(if a<b then b else a)=mx a b:=rfl
theorem wrap_3:IntKind.i64.wrap 3=3:=by decide
theorem wrap_4:IntKind.i64.wrap 4=4:=by decide
def Cnt.plus(x y:Cnt):Cnt:=⟨mn (W64 (x.st+y.st)) 16385,mn (W64 (x.ge+y.ge)) 16385,mn (W64 (x.pu+y.pu)) 16385,mn (W64 (x.em+y.em)) 16385⟩
def Cnt.times(x:Cnt)(n:Int):Cnt:=⟨mn (W64 (x.st * n)) 16385,mn (W64 (x.ge * n)) 16385,mn (W64 (x.pu * n)) 16385,mn (W64 (x.em * n)) 16385⟩
def Cnt.larger(x y:Cnt):Cnt:=⟨mx x.st y.st,mx x.ge y.ge,mx x.pu y.pu,mx x.em y.em⟩
mutual
def rdsE:Ex→Int
 | .mk op _ _ args=>mn (rdsL args (if op=22∨op=23∨op=24 then 1 else 0)) 16385
def rdsL:List Ex→Int→Int
 | [],n=>n
 |e::l,n=>rdsL l (W64 (n+rdsE e))
end
theorem rdsE_eq(e:Ex):rdsE e=mn (rdsL e.args (if e.op=22∨e.op=23∨e.op=24 then 1 else 0)) 16385:=by cases e;rw[rdsE];rfl
def cnt0(t:St):Cnt :=
 let g:=if t.op=8 then 0 else rdsE t.a
 if t.op=3 then⟨1,mn (W64 (g+rdsE t.b)) 16385,1,0⟩
 else if t.op=4 then⟨1,g,1,0⟩
 else if t.op=7 then⟨1,g,0,1⟩
 else if t.op=6 then⟨W64 (1+t.max),mn (W64 (g+rdsE t.b)) 16385,0,0⟩
 else⟨1,g,0,0⟩
mutual
def cntS:St→Cnt
 | .mk op name m a b body els =>
  if op=5 then(cnt0 (.mk op name m a b body els)).plus ((cntL body ⟨0,0,0,0⟩).larger (cntL els ⟨0,0,0,0⟩))
  else if op=6 then(cnt0 (.mk op name m a b body els)).plus ((cntL body ⟨0,0,0,0⟩).times m)
  else cnt0 (.mk op name m a b body els)
def cntL:List St→Cnt→Cnt
 | [],c=>c
 |t::l,c=>cntL l (c.plus (cntS t))
end
abbrev cntB(l:List St):Cnt:=cntL l ⟨0,0,0,0⟩
theorem cntS_eq(t:St):cntS t=if t.op=5 then(cnt0 t).plus ((cntB t.body).larger (cntB t.els))else if t.op=6 then(cnt0 t).plus ((cntB t.body).times t.max)else cnt0 t:=by
 cases t;rw[cntS];rfl
def qbv(p:Proc):Int :=
 if detErr p≠0 then detErr p
 else if 16384<(cntB p.body).st then 13
 else if 64<(cntB p.body).ge∨64<(cntB p.body).pu∨16<(cntB p.body).em then 2
 else 0
structure Stop where
 status:Int
 code:Int
 miss:qac
def ab(code:Int):Stop:=⟨2,code,em⟩
def rst(key:qac):Stop:=⟨3,0,key⟩
structure MS where
 vars:List (qac×V)
 own:List (qac×V)
 out:List V
 reads:List qac
 puts:List qac
 steps:Nat
def MS.nil:MS:=⟨[],[],[],[],[],0⟩
def vI(n:Int):V:=⟨1,n,em⟩
def vS(s:qac):V:=⟨2,0,s⟩
def vB(b:Bool):V:=⟨3,if b then 1 else 0,em⟩
abbrev EV:=Except Stop V
def textS(s:qac):EV:=if 64<(s.size:Int)then .error (ab 1006)else .ok (vS s)
def qcs(r:Int×Int):EV:=if r.2=0 then .ok (vI r.1)else if r.2=4 then .error (ab 1002)else .error (ab 1001)
def qel(op a b:Int):EV:=if op=4 then qcs (numAdd a b)else if op=5 then qcs (qb4 a b)else if op=6 then qcs (numMul a b)else if op=7 then qcs (numDiv a b)else qcs (numMod a b)
def cmpBy(op c:Int):Bool:=if op=10 then decide (c=0)else if op=11 then !decide (c=0)else if op=12 then decide (c<0)else if op=13 then decide (c≤0)else if op=14 then decide (0<c)else decide (0≤c)
def compS(op:Int)(a b:V):EV:=if a.k=b.k∧(a.k=1∨a.k=2∨(a.k=3∧op≤11))then .ok (vB (cmpBy op (cmpV a b)))else .error (ab 1009)
def binS(op:Int)(a b:V):EV :=
 if op=4∨op=5∨op=6∨op=7∨op=8 then(if a.k=1∧b.k=1 then qel op a.n b.n else .error (ab 1009))
 else if op=16 then(if a.k=3∧b.k=3 then .ok (vB (decide (a.n=1)&&decide (b.n=1)))else .error (ab 1009))
 else if op=17 then(if a.k=3∧b.k=3 then .ok (vB (decide (a.n=1)||decide (b.n=1)))else .error (ab 1009))
 else if op=19 then(if a.k=2∧b.k=2 then textS (a.s++b.s)else .error (ab 1009))
 else compS op a b
def posS(k:qac):List qac→Nat
 | []=>0
 |x::l=>if sLt x k then posS k l+1 else 0
def withS(l:List qac)(k:qac):List qac:=if l[posS k l]?=some k then l else l.take (posS k l)++k::l.drop (posS k l)
structure Cfg where
 state:List Pr
 all:Bool
 rd:List qac
 wr:List qac
 fmt:Int→qac
section
variable (C:Cfg)
def qc0(key:qac)(m:MS):EV×MS :=
 if keyOk key=false then(.error (ab 1004),m)
 else match qbg m.own key with
  |some v=>(.ok v,m)
  |none=>if C.all=false∧qd1 C.rd key=false then(.error (rst key),m)
   else(.ok (getP C.state key),{ m with reads:=withS m.reads key })
def qcq(key:qac)(v:V)(m:MS):Except Stop Unit×MS :=
 if keyOk key=false then(.error (ab 1004),m)
 else if C.all=false∧qd1 C.wr key=false then(.error (rst key),m)
 else(.ok (),{ m with puts:=withS m.puts key,own:=qbr m.own key v })
def emitS(v:V)(m:MS):Except Stop Unit×MS:=if m.out.length=16 then(.error (ab 1007),m)else(.ok (),{ m with out:=m.out++[v] })
def tickS(m:MS):Except Stop Unit×MS:=(if 16384<m.steps+1 then .error (ab 1008)else .ok (),{ m with steps:=m.steps+1 })
def gotS(op:Int)(v:V):EV :=
 if op=24 then .ok (vB (!decide (v.k=0)))
 else if op=22∧v.k=0 then .ok (vI 0)
 else if op=23∧v.k=0 then textS em
 else if (op=22∧v.k≠1)∨(op=23∧v.k≠2)then .error (ab 1003)
 else .ok v
def unS(op:Int)(a:V)(m:MS):EV×MS :=
 if op=9 then(if a.k=1 then qcs (qdn a.n)else .error (ab 1009),m)
 else if op=18 then(if a.k=3 then .ok (vB (decide (a.n=0)))else .error (ab 1009),m)
 else if op=20 then(if a.k=1 then textS (C.fmt a.n)else .error (ab 1009),m)
 else if op=21 then(if a.k=2 then .ok (vI a.s.size)else .error (ab 1009),m)
 else if a.k≠2 then(.error (ab 1009),m)
 else match qc0 C a.s m with
  |(.error z,m')=>(.error z,m')
  |(.ok v,m')=>(gotS op v,m')
def opS(op:Int)(l:List V)(m:MS):EV×MS :=
 match l with
 | [a]=>unS C op a m
 | [a,b]=>(binS op a b,m)
 |_=>(.error (ab 1009),m)
mutual
def evE:Ex→MS→EV×MS
 | .mk op n s args,m =>
  if op=1 then(.ok (vI n),m)
  else if op=2 then(.ok (vS s),m)
  else if op=3 then((match qbg m.vars s with|some v=>.ok v|none=>.error (ab 1009)),m)
  else match evL args m with
   |(.error z,m')=>(.error z,m')
   |(.ok l,m')=>opS C op l m'
def evL:List Ex→MS→Except Stop (List V)×MS
 | [],m=>(.ok [],m)
 |e::l,m=>match evE e m with
  |(.error z,m')=>(.error z,m')
  |(.ok v,m')=>match evL l m' with
   |(.error z,m'')=>(.error z,m'')
   |(.ok r,m'')=>(.ok (v::r),m'')
end
theorem evE_eq(e:Ex)(m:MS):evE C e m=if e.op=1 then(.ok (vI e.n),m)
  else if e.op=2 then(.ok (vS e.s),m)
  else if e.op=3 then((match qbg m.vars e.s with|some v=>.ok v|none=>.error (ab 1009)),m)
  else match evL C e.args m with
   |(.error z,m')=>(.error z,m')
   |(.ok l,m')=>opS C e.op l m':=by cases e;rw[evE];rfl
def loopS(body:MS→Except Stop Unit×MS)(name:qac)(b:Int):Nat→Int→MS→Except Stop Unit×MS
 | 0,_,m=>(.ok (),m)
 |f+1,i,m =>
  if i<b then
   match tickS m with
   |(.error z,m')=>(.error z,m')
   |(.ok _,m')=>match body { m' with vars:=qbr m'.vars name (vI i) }with
    |(.error z,m'')=>(.error z,m'')
    |(.ok _,m'')=>loopS body name b f (W64 (i+1)) m''
  else(.ok (),m)
def tooMany(a b:Int)(mx:Int):Prop:=a<b∧IntKind.u64.wrap mx<IntKind.u64.wrap (IntKind.u64.wrap b - IntKind.u64.wrap a)
instance (a b mx:Int):Decidable (tooMany a b mx):=inferInstanceAs (Decidable (_∧_))
mutual
def stI:St→MS→Except Stop Unit×MS
 | .mk op name mx a b body els,m =>
  if op=1∨op=2 then
   match evE C a m with
   |(.error z,m')=>(.error z,m')
   |(.ok v,m')=>(.ok (),{ m' with vars:=qbr m'.vars name v })
  else if op=3 then
   match evE C a m with
   |(.error z,m')=>(.error z,m')
   |(.ok k,m')=>match evE C b m' with
    |(.error z,m'')=>(.error z,m'')
    |(.ok v,m'')=>if k.k=2∧(v.k=1∨v.k=2)then qcq C k.s v m'' else(.error (ab 1009),m'')
  else if op=4 then
   match evE C a m with
   |(.error z,m')=>(.error z,m')
   |(.ok k,m')=>if k.k=2 then qcq C k.s V.nil m' else(.error (ab 1009),m')
  else if op=5 then
   match evE C a m with
   |(.error z,m')=>(.error z,m')
   |(.ok c,m')=>if c.k=3 then(if c.n=1 then blkI body m' else blkI els m')else(.error (ab 1009),m')
  else if op=6 then
   match evE C a m with
   |(.error z,m')=>(.error z,m')
   |(.ok u,m')=>match evE C b m' with
    |(.error z,m'')=>(.error z,m'')
    |(.ok v,m'') =>
     if u.k=1∧v.k=1 then
      (if tooMany u.n v.n mx then(.error (ab 1005),m'')else loopS (fun x=>blkI body x) name v.n 16386 u.n m'')
     else(.error (ab 1009),m'')
  else if op=7 then
   match evE C a m with
   |(.error z,m')=>(.error z,m')
   |(.ok v,m')=>if v.k=1∨v.k=2 then emitS v m' else(.error (ab 1009),m')
  else if op=8 then(.error (ab mx),m)
  else(.ok (),m)
def blkI:List St→MS→Except Stop Unit×MS
 | [],m=>(.ok (),m)
 |t::l,m=>match tickS m with
  |(.error z,m')=>(.error z,m')
  |(.ok _,m')=>match stI t m' with
   |(.error z,m'')=>(.error z,m'')
   |(.ok _,m'')=>blkI l m''
end
end
def doneS:Except Stop Unit×MS→Eff
 |(.error z,m)=>⟨z.status,z.code,[],m.reads,m.puts,[],z.miss,m.steps⟩
 |(.ok _,m)=>⟨1,0,m.out,m.reads,m.puts,m.puts.map fun k=>⟨k,(qbg m.own k).getD V.nil⟩,em,m.steps⟩
def wrongE:Eff:=⟨2,1009,[],[],[],[],em,0⟩
def qdp:List Param→List V→List (qac×V)→List (qac×V)
 |x::l,v::r,m=>qdp l r (qbr m x.name v)
 |_,_,m=>m
def runS(fmt:Int→qac)(p:Proc)(args:List V)(st:List Pr)(ft:Foot):Eff :=
 if qbv p≠0∨qcl p args≠0∨qb7 st=false∨footOk ft.all ft.reads ft.writes=false then wrongE
 else doneS (blkI ⟨st,ft.all,ft.reads,ft.writes,fmt⟩ p.body ⟨qdp p.params args [],[],[],[],[],0⟩)
end Go.Cw

namespace Go.Cw
open Go Go.Abs
def scan(stop:Ex→Bool):List Ex→Nat→Nat×Option Ex
 | [],k=>(k,none)
 |e::l,k=>if stop e then(k,some e)else scan stop l (k+1)
theorem scan_app(stop:Ex→Bool):∀(a b:List Ex) (k:Nat),scan stop (a++b) k=match scan stop a k with
  |(k',some e)=>(k',some e)
  |(k',none)=>scan stop b k'
 | [],b,k=>rfl
 |e::a,b,k=>by
  simp only[List.cons_append,scan];split
  ·rfl
  ·exact scan_app stop a b (k+1)
theorem scan_pre(stop:Ex→Bool)(e:Ex)(k:Nat):scan stop (preE e) k=if stop e then(k,some e)else scan stop (preL e.args) (k+1):=by
 rw[preE_eq,scan]
theorem scan_preL(stop:Ex→Bool)(e:Ex)(l:List Ex)(k:Nat):scan stop (preL (e::l)) k=match scan stop (preE e) k with
  |(k',some x)=>(k',some x)
  |(k',none)=>scan stop (preL l) k':=by
 rw[preL,scan_app]
theorem firstN_scan(l:List Ex):∀k:Nat,firstN l k=match scan (fun e=>nonDet e.op) l k with
  |(k',some e)=>(e.op,(k':Int),true)
  |(_,none)=>(0,0,false):=by
 induction l with
 |nil=>intro k;rfl
 |cons e l ih =>
  intro k;simp only[firstN,scan];by_cases h:nonDet e.op=true
  ·rw[if_pos h,if_pos h]
  ·rw[if_neg h,if_neg h];have:=ih (k+1);rw[←this];rfl
theorem W64_succ(a:Int):IntKind.i64.wrap (IntKind.i64.wrap a+1)=IntKind.i64.wrap (a+1):=by
 simp only[IntKind.wrap,IntKind.bits,IntKind.signed];simp;omega
end Go.Cw

namespace Go.Cw
open Go Go.Abs
def i64(n:Int):Prop:=-9223372036854775808≤n∧n≤9223372036854775807
theorem i64_wrap(n:Int):i64 (IntKind.i64.wrap n):=by
 simp only[i64,IntKind.wrap,IntKind.bits,IntKind.signed];simp;omega
def qcx(v:V):Prop:=i64 v.n∧v.s.size≤4294967296
def rngX:Ex→Prop
 | .mk _ n s args=>(i64 n∧s.size≤4294967296)∧∀x∈args.attach,rngX x.1
termination_by e=>SizeOf.sizeOf e
decreasing_by
 have:=List.sizeOf_lt_of_mem x.2;simp only[Ex.mk.sizeOf_spec];omega
theorem qdd(e:Ex):rngX e↔(i64 e.n∧e.s.size≤4294967296)∧∀x∈e.args,rngX x:=by
 cases e with
 |mk op n s args =>
  rw[rngX];simp[Ex.n,Ex.s,Ex.args]
def nodes(e:Ex):Nat:=(preE e).length
def nodesL(l:List Ex):Nat:=(preL l).length
theorem nodes_eq(e:Ex):nodes e=nodesL e.args+1:=by rw[nodes,preE_eq];rfl
theorem nodesL_cons(e:Ex)(l:List Ex):nodesL (e::l)=nodes e+nodesL l:=by rw[nodesL,preL,List.length_append];rfl
mutual
theorem chkE_nodes:∀(e:Ex) (d k:Nat),chkE e d=0→d+k=13→nodes e+1≤2 ^ k
 | .mk op n s args,d,k,h,hk=>by
  have har:=qd5 h;rw[chkE_eq]at h;split at h
  ·rename_i h0;have hd:d≤12:=by
    unfold qcb at h0;split at h0
    ·omega
    split at h0
    ·omega
    split at h0
    ·omega
    split at h0
    ·omega
    ·omega
   have h2:args.length≤2:=by
    have:qb0 (Ex.mk op n s args).op≤2:=by unfold qb0;repeat' split<;>omega
    simp only[Ex.args]at har;omega
   have h1:=chkL_nodes args (d+1) (k - 1) h (by omega);rw[nodes_eq];simp only[Ex.args];have hp:2 ^ k=2 * 2 ^ (k - 1):=by rw[←Nat.pow_succ'];congr 1;omega
   have hpos:1≤2 ^ (k - 1):=Nat.one_le_two_pow;have h3:args.length=0∨args.length=1∨args.length=2:=by omega
   rcases h3 with h3|h3|h3<;>rw[h3]at h1<;>omega
  ·contradiction
theorem chkL_nodes:∀(l:List Ex) (d k:Nat),chkL l d=0→d+k=13→nodesL l+l.length≤l.length * 2 ^ k
 | [],d,k,_,_=>by simp[nodesL,preL]
 |e::l,d,k,h,hk=>by
  rw[chkL]at h;split at h
  ·rename_i h0;have h1:=chkE_nodes e d k h0 hk;have h2:=chkL_nodes l d k h hk;rw[nodesL_cons,List.length_cons,Nat.succ_mul];omega
  ·contradiction
end
section
variable {P:Program} {E:Ent} {Q:AExit→Env→Prop} {e:Env}
theorem awp_loopM{α:Type}{b:Code}(I:α→Prop)(S:α→Env)(μ:α→Nat)(a0:α)(h0:I a0)(hw:Wk E e (S a0))
  (step:∀a,I a→wpC P E b (AExit.then (fun e'=>∃a',I a'∧μ a'<μ a∧Wk E e' (S a')) Q) (S a)):AWp P E (.loop b) Q e :=
 awp_loop (ι:=α) (I:=I) (S:=S) (μ:=μ) a0 h0 hw fun a hI=>qay _ _ _ (step a hI)
end
abbrev ascS(l:List qac):Prop:=l.Pairwise fun a b=>sLt a b=true
theorem posS_le(k:qac):∀l,posS k l≤l.length
 | []=>Nat.le_refl _
 |x::l=>by
  rw[posS];split
  ·have:=posS_le k l;simp;omega
  ·simp
theorem posS_lt{k:qac}:∀{l:List qac},ascS l→∀(n:Nat) (h:n<l.length),(n<posS k l↔sLt l[n] k=true)
 | [],_,n,h=>by simp at h
 |x::l,ha,n,h=>by
  obtain⟨h1,h2⟩:=List.pairwise_cons.1 ha;rw[posS];by_cases hx:sLt x k=true
  ·rw[if_pos hx];cases n with
   |zero=>simp[hx]
   |succ n =>
    have:=posS_lt (k:=k) h2 n (by simpa using h);simp only[List.getElem_cons_succ];rw[←this];omega
  ·rw[if_neg hx];cases n with
   |zero=>simp[hx]
   |succ n =>
    simp only[List.getElem_cons_succ];refine⟨fun h=>by omega,fun hn=>?_⟩;exact(hx (sLt_trans (h1 _ (List.getElem_mem _)) hn)).elim
theorem withS_asc{l:List qac}(ha:ascS l)(k:qac):ascS (withS l k):=by
 unfold withS;split
 ·exact ha
 ·rename_i hne;have hle:=posS_le k l;refine List.pairwise_append.2 ⟨ha.sublist (List.take_sublist _ _),List.pairwise_cons.2 ⟨fun b hb=>?_,ha.sublist (List.drop_sublist _ _)⟩,fun a hA b hb=>?_⟩
  ·obtain⟨i,hi,rfl⟩:=List.getElem_of_mem hb;rw[List.getElem_drop];have hi':posS k l+i<l.length:=by
    have:i<l.length - posS k l:=by simpa using hi
    omega
   have hnot:sLt l[posS k l+i] k=false:=by
    cases h:sLt l[posS k l+i] k with
    |false=>rfl
    |true=>have:=(posS_lt ha _ hi').2 h;omega
   cases hki:sLt k l[posS k l+i]with
   |true=>rfl
   |false =>
    have:=sLt_tri k l[posS k l+i];rw[hki,hnot]at this;simp at this
    -- equal: only the first can be
    cases i with
    |zero =>
     simp only[Nat.add_zero]at this;exact(hne (by rw[List.getElem?_eq_getElem (by omega),←this])).elim
    |succ i =>
     have hp:=(List.pairwise_iff_getElem.1 ha) (posS k l) (posS k l+(i+1)) (by omega) hi' (by omega);rw[←this]at hp;have:=(posS_lt ha (posS k l) (by omega)).2 hp;omega
  ·obtain⟨i,hi,rfl⟩:=List.getElem_of_mem hA;have hi1:i<posS k l:=by simp at hi;omega
   have hlt:sLt (l.take (posS k l))[i] k=true:=by
    rw[List.getElem_take];exact(posS_lt ha i (by omega)).1 hi1
   rcases List.mem_cons.1 hb with rfl|hb
   ·exact hlt
   ·obtain⟨j,hj,rfl⟩:=List.getElem_of_mem hb;rw[List.getElem_drop,List.getElem_take];exact(List.pairwise_iff_getElem.1 ha) i (posS k l+j) (by omega) (by simp at hj;omega) (by omega)
theorem withS_len(l:List qac)(k:qac):(withS l k).length≤l.length+1:=by
 unfold withS;split
 ·omega
 ·have:=posS_le k l;simp;omega
abbrev vAV(v:V):AV:=.agg v.c
@[simp] theorem kvSet_v(l:List (qac×V))(s:qac)(x:V):qb5 (kvSet (l.map fun p=>(p.1,vAV p.2)) s (.agg [I x.k,I x.n,S x.s]))=kAV vAV (qbr l s x):=kvSet_map vAV l s x
structure MQ where
 vars:List (qac×V)
 own:List (qac×V)
 out:List V
 reads:List qac
 puts:List qac
 no:Nat
 nr:Nat
 np:Nat
 steps:Int
def MS.q(s:MS):MQ:=⟨s.vars,s.own,s.out,s.reads,s.puts,s.out.length,s.reads.length,s.puts.length,s.steps⟩
@[simp] theorem q_vars(s:MS):s.q.vars=s.vars:=rfl
@[simp] theorem q_own(s:MS):s.q.own=s.own:=rfl
@[simp] theorem q_out(s:MS):s.q.out=s.out:=rfl
@[simp] theorem q_reads(s:MS):s.q.reads=s.reads:=rfl
@[simp] theorem q_puts(s:MS):s.q.puts=s.puts:=rfl
@[simp] theorem q_no(s:MS):s.q.no=s.out.length:=rfl
@[simp] theorem q_nr(s:MS):s.q.nr=s.reads.length:=rfl
@[simp] theorem q_np(s:MS):s.q.np=s.puts.length:=rfl
@[simp] theorem q_steps(s:MS):s.q.steps=s.steps:=rfl
def mC(C:Cfg)(v o io ir ip:Nat)(q:MQ):List AV :=
 [.slice (C.state.map Pr.c),Bo C.all,.slice (C.rd.map qa1),.slice (C.wr.map qa1),.mapr v,.mapr o,I 0,I 0,.own io q.no,.own ir q.nr,.own ip q.np,.nils,S em,I q.steps]
structure MH(C:Cfg)(tb:AObj)(tV tS:Nat)(g m v o io ir ip:Nat)(K:MQ→qab)(n0:Nat):Prop where
 len:∀q,(K q).length=n0
 hg:g<n0
 hm:m<n0
 hv:v<n0
 ho:o<n0
 hio:io<n0
 hir:ir<n0
 hip:ip<n0
 lg:∀q,(K q)[g]?=some tb
 lm:∀q,(K q)[m]?=some (.cells (mC C v o io ir ip q))
 lv:∀q,(K q)[v]?=some (.map (kAV vAV q.vars))
 lo:∀q,(K q)[o]?=some (.map (kAV vAV q.own))
 lio:∀q,(K q)[io]?=some (.arr tV 3 (q.out.map V.c))
 lir:∀q,(K q)[ir]?=some (.uarr tS 1 (q.reads.map qa1))
 lip:∀q,(K q)[ip]?=some (.uarr tS 1 (q.puts.map qa1))
 sm:∀q no nr np (st:Int),(K q).set m (.cells (mC C v o io ir ip ⟨q.vars,q.own,q.out,q.reads,q.puts,no,nr,np,st⟩))=K ⟨q.vars,q.own,q.out,q.reads,q.puts,no,nr,np,st⟩
 sv:∀q x,(K q).set v (.map (kAV vAV x))=K ⟨x,q.own,q.out,q.reads,q.puts,q.no,q.nr,q.np,q.steps⟩
 so:∀q x,(K q).set o (.map (kAV vAV x))=K ⟨q.vars,x,q.out,q.reads,q.puts,q.no,q.nr,q.np,q.steps⟩
 sio:∀q (x:List V),(K q).set io (.arr tV 3 (x.map V.c))=K ⟨q.vars,q.own,x,q.reads,q.puts,q.no,q.nr,q.np,q.steps⟩
 sir:∀q (x:List qac),(K q).set ir (.uarr tS 1 (x.map qa1))=K ⟨q.vars,q.own,q.out,x,q.puts,q.no,q.nr,q.np,q.steps⟩
 sip:∀q (x:List qac),(K q).set ip (.uarr tS 1 (x.map qa1))=K ⟨q.vars,q.own,q.out,q.reads,x,q.no,q.nr,q.np,q.steps⟩
 und:∀q,hUnder n0 (K q)=true
section
variable {C:Cfg} {tb:AObj} {tV tS g m v o io ir ip:Nat} {K:MQ→qab} {n0:Nat}
theorem MH.gl(Y:MH C tb tV tS g m v o io ir ip K n0){i:Nat}(hi:i<n0)(q:MQ)(l:qab):(K q++l)[i]?=(K q)[i]?:=List.getElem?_append_left (by rw[Y.len];exact hi)
theorem MH.lg'(Y:MH C tb tV tS g m v o io ir ip K n0)(q:MQ)(l:qab):(K q++l)[g]?=some tb:=by rw[Y.gl Y.hg,Y.lg]
theorem MH.lm'(Y:MH C tb tV tS g m v o io ir ip K n0)(q:MQ)(l:qab):(K q++l)[m]?=some (.cells (mC C v o io ir ip q)):=by rw[Y.gl Y.hm,Y.lm]
theorem MH.lv'(Y:MH C tb tV tS g m v o io ir ip K n0)(q:MQ)(l:qab):(K q++l)[v]?=some (.map (kAV vAV q.vars)):=by rw[Y.gl Y.hv,Y.lv]
theorem MH.lo'(Y:MH C tb tV tS g m v o io ir ip K n0)(q:MQ)(l:qab):(K q++l)[o]?=some (.map (kAV vAV q.own)):=by rw[Y.gl Y.ho,Y.lo]
theorem MH.lio'(Y:MH C tb tV tS g m v o io ir ip K n0)(q:MQ)(l:qab):(K q++l)[io]?=some (.arr tV 3 (q.out.map V.c)):=by rw[Y.gl Y.hio,Y.lio]
theorem MH.lir'(Y:MH C tb tV tS g m v o io ir ip K n0)(q:MQ)(l:qab):(K q++l)[ir]?=some (.uarr tS 1 (q.reads.map qa1)):=by rw[Y.gl Y.hir,Y.lir]
theorem MH.lip'(Y:MH C tb tV tS g m v o io ir ip K n0)(q:MQ)(l:qab):(K q++l)[ip]?=some (.uarr tS 1 (q.puts.map qa1)):=by rw[Y.gl Y.hip,Y.lip]
theorem MH.sl(Y:MH C tb tV tS g m v o io ir ip K n0){i:Nat}(hi:i<n0)(q:MQ)(y:AObj)(l:qab):(K q++l).set i y=(K q).set i y++l:=List.set_append_left _ _ (by rw[Y.len];exact hi)
theorem MH.sm'(Y:MH C tb tV tS g m v o io ir ip K n0)(q:MQ)(no nr np:Nat)(st:Int)(l:qab):(K q++l).set m (.cells (mC C v o io ir ip ⟨q.vars,q.own,q.out,q.reads,q.puts,no,nr,np,st⟩))=K ⟨q.vars,q.own,q.out,q.reads,q.puts,no,nr,np,st⟩++l:=by rw[Y.sl Y.hm,Y.sm]
theorem MH.sv'(Y:MH C tb tV tS g m v o io ir ip K n0)(q:MQ)(x:List (qac×V))(l:qab):(K q++l).set v (.map (kAV vAV x))=K ⟨x,q.own,q.out,q.reads,q.puts,q.no,q.nr,q.np,q.steps⟩++l:=by rw[Y.sl Y.hv,Y.sv]
theorem MH.so'(Y:MH C tb tV tS g m v o io ir ip K n0)(q:MQ)(x:List (qac×V))(l:qab):(K q++l).set o (.map (kAV vAV x))=K ⟨q.vars,x,q.out,q.reads,q.puts,q.no,q.nr,q.np,q.steps⟩++l:=by rw[Y.sl Y.ho,Y.so]
theorem MH.sio'(Y:MH C tb tV tS g m v o io ir ip K n0)(q:MQ)(x:List V)(l:qab):(K q++l).set io (.arr tV 3 (x.map V.c))=K ⟨q.vars,q.own,x,q.reads,q.puts,q.no,q.nr,q.np,q.steps⟩++l:=by rw[Y.sl Y.hio,Y.sio]
theorem MH.sir'(Y:MH C tb tV tS g m v o io ir ip K n0)(q:MQ)(x:List qac)(l:qab):(K q++l).set ir (.uarr tS 1 (x.map qa1))=K ⟨q.vars,q.own,q.out,x,q.puts,q.no,q.nr,q.np,q.steps⟩++l:=by rw[Y.sl Y.hir,Y.sir]
theorem MH.sip'(Y:MH C tb tV tS g m v o io ir ip K n0)(q:MQ)(x:List qac)(l:qab):(K q++l).set ip (.uarr tS 1 (x.map qa1))=K ⟨q.vars,q.own,q.out,q.reads,x,q.no,q.nr,q.np,q.steps⟩++l:=by rw[Y.sl Y.hip,Y.sip]
theorem MH.smx(Y:MH C tb tV tS g m v o io ir ip K n0)(q:MQ)(no nr np:Nat)(st:Int):(K q).set m (.cells [.slice (C.state.map Pr.c),Bo C.all,.slice (C.rd.map qa1),.slice (C.wr.map qa1),.mapr v,.mapr o,I 0,I 0,.own io no,.own ir nr,.own ip np,.nils,S em,I st])=K ⟨q.vars,q.own,q.out,q.reads,q.puts,no,nr,np,st⟩:=Y.sm q no nr np st
theorem MH.smx'(Y:MH C tb tV tS g m v o io ir ip K n0)(q:MQ)(no nr np:Nat)(st:Int)(l:qab):(K q++l).set m (.cells [.slice (C.state.map Pr.c),Bo C.all,.slice (C.rd.map qa1),.slice (C.wr.map qa1),.mapr v,.mapr o,I 0,I 0,.own io no,.own ir nr,.own ip np,.nils,S em,I st])=K ⟨q.vars,q.own,q.out,q.reads,q.puts,no,nr,np,st⟩++l:=Y.sm' q no nr np st l
theorem MH.sioA(Y:MH C tb tV tS g m v o io ir ip K n0)(q:MQ)(l0:List V)(x:V)(l:qab):(K q++l).set io (.arr tV 3 (l0.map V.c++[[I x.k,I x.n,S x.s]]))=K ⟨q.vars,q.own,l0++[x],q.reads,q.puts,q.no,q.nr,q.np,q.steps⟩++l:=by
 rw[←Y.sio' q (l0++[x]) l,List.map_append];rfl
theorem MH.und'(Y:MH C tb tV tS g m v o io ir ip K n0)(q:MQ):hUnder (K q).length (K q)=true:=by rw[Y.len];exact Y.und q
theorem MH.loc(Y:MH C tb tV tS g m v o io ir ip K n0)(q:MQ)(x:AObj)(l:qab):(K q++x::l)[n0]?=some x:=by rw[List.getElem?_append_right (by rw[Y.len];omega),Y.len,Nat.sub_self];rfl
theorem MH.loc1(Y:MH C tb tV tS g m v o io ir ip K n0)(q:MQ)(x y:AObj)(l:qab):(K q++x::y::l)[n0+1]?=some y:=by rw[List.getElem?_append_right (by rw[Y.len];omega),Y.len,show n0+1 - n0=1 by omega];rfl
theorem MH.loc2(Y:MH C tb tV tS g m v o io ir ip K n0)(q:MQ)(x y z:AObj)(l:qab):(K q++x::y::z::l)[n0+2]?=some z:=by rw[List.getElem?_append_right (by rw[Y.len];omega),Y.len,show n0+2 - n0=2 by omega];rfl
theorem MH.loc3(Y:MH C tb tV tS g m v o io ir ip K n0)(q:MQ)(x y z u:AObj)(l:qab):(K q++x::y::z::u::l)[n0+3]?=some u:=by rw[List.getElem?_append_right (by rw[Y.len];omega),Y.len,show n0+3 - n0=3 by omega];rfl
theorem MH.sloc2(Y:MH C tb tV tS g m v o io ir ip K n0)(q:MQ)(x y z u:AObj)(l:qab):(K q++x::z::u::l).set (n0+2) y=K q++x::z::y::l:=by
 rw[List.set_append_right _ _ (by rw[Y.len];omega),Y.len,show n0+2 - n0=2 by omega];rfl
theorem MH.sloc(Y:MH C tb tV tS g m v o io ir ip K n0)(q:MQ)(x y:AObj)(l:qab):(K q++x::l).set n0 y=K q++y::l:=by
 rw[List.set_append_right _ _ (by rw[Y.len];omega),Y.len,Nat.sub_self];rfl
theorem MH.sloc1(Y:MH C tb tV tS g m v o io ir ip K n0)(q:MQ)(x y z:AObj)(l:qab):(K q++x::z::l).set (n0+1) y=K q++x::y::l:=by
 rw[List.set_append_right _ _ (by rw[Y.len];omega),Y.len,show n0+1 - n0=1 by omega];rfl
theorem MH.undA(Y:MH C tb tV tS g m v o io ir ip K n0)(q:MQ)(l:qab)(k:Nat):hUnder (n0+k) (K q++l)=hUnder (n0+k) l:=by rw[qar,qau (by omega) (Y.und q)];rfl
theorem MH.ext(Y:MH C tb tV tS g m v o io ir ip K n0)(L:qab)(hL:hUnder (n0+L.length) L=true):MH C tb tV tS g m v o io ir ip (fun q=>K q++L) (n0+L.length) where
 len:=fun s=>by rw[List.length_append,Y.len]
 hg:=by have:=Y.hg;omega
 hm:=by have:=Y.hm;omega
 hv:=by have:=Y.hv;omega
 ho:=by have:=Y.ho;omega
 hio:=by have:=Y.hio;omega
 hir:=by have:=Y.hir;omega
 hip:=by have:=Y.hip;omega
 lg:=fun q=>Y.lg' q L
 lm:=fun q=>Y.lm' q L
 lv:=fun q=>Y.lv' q L
 lo:=fun q=>Y.lo' q L
 lio:=fun q=>Y.lio' q L
 lir:=fun q=>Y.lir' q L
 lip:=fun q=>Y.lip' q L
 sm:=fun q no nr np st=>Y.sm' q no nr np st L
 sv:=fun q x=>Y.sv' q x L
 so:=fun q x=>Y.so' q x L
 sio:=fun q x=>Y.sio' q x L
 sir:=fun q x=>Y.sir' q x L
 sip:=fun q x=>Y.sip' q x L
 und:=fun q=>by rw[qar,qau (by omega) (Y.und q),hL];rfl
end
end Go.Cw

namespace Go.Cw
open Go Go.Abs
theorem i64_w(n:Int):i64 (W64 n):=i64_wrap n
theorem i64_neg(a:Int):i64 (qdn a).1:=by
 unfold qdn;split
 ·exact⟨by decide,by decide⟩
 ·exact i64_w _
theorem i64_mod{a b:Int}(hb:i64 b):i64 (numMod a b).1:=by
 unfold numMod;split
 ·exact⟨by decide,by decide⟩
 split
 ·exact⟨by decide,by decide⟩
 split
 ·exact i64_w _
 ·rename_i h0 _ _;have h1:(a.tmod b).natAbs=a.natAbs % b.natAbs:=Int.natAbs_tmod a b;have h2:a.natAbs % b.natAbs<b.natAbs:=Nat.mod_lt _ (by omega);have:=hb.1;have:=hb.2;simp only[i64];omega
theorem i64_arith{op a b:Int}{v:V}(hb:i64 b)(h:qel op a b=.ok v):qcx v:=by
 have hx:∀r:Int×Int,i64 r.1→qcs r=.ok v→qcx v:=fun r hr hv=>by
  unfold qcs at hv;split at hv
  ·cases hv;exact⟨hr,by simp[vI,em]⟩
  ·split at hv<;>cases hv
 unfold qel at h;have hz:i64 0:=⟨by decide,by decide⟩
 split at h
 ·refine hx _ ?_ h;unfold numAdd;split
  ·exact hz
  ·exact i64_w _
 split at h
 ·refine hx _ ?_ h;unfold qb4;split
  ·exact hz
  ·exact i64_w _
 split at h
 ·refine hx _ ?_ h;unfold numMul;split
  ·exact hz
  split
  ·exact i64_neg _
  split
  ·exact i64_neg _
  split
  ·exact hz
  ·exact i64_w _
 split at h
 ·refine hx _ ?_ h;unfold numDiv;split
  ·exact hz
  split
  ·exact i64_neg _
  split
  ·exact i64_w _
  ·exact i64_w _
 ·exact hx _ (i64_mod hb) h
theorem rng_vB(b:Bool):qcx (vB b):=by cases b<;>exact⟨⟨by decide,by decide⟩,by simp[vB,em]⟩
theorem rng_vI{n:Int}(h:i64 n):qcx (vI n):=⟨h,by simp[vI,em]⟩
theorem rng_text{s:qac}{v:V}(h:textS s=.ok v):qcx v:=by
 unfold textS at h;split at h
 ·cases h
 ·cases h;exact⟨⟨by simp[vS],by simp[vS]⟩,by simp only[vS];omega⟩
theorem rng_bin{op:Int}{a b v:V}(hb:qcx b)(h:binS op a b=.ok v):qcx v:=by
 unfold binS at h;split at h
 ·split at h
  ·exact i64_arith hb.1 h
  ·cases h
 split at h
 ·split at h
  ·cases h;exact rng_vB _
  ·cases h
 split at h
 ·split at h
  ·cases h;exact rng_vB _
  ·cases h
 split at h
 ·split at h
  ·exact rng_text h
  ·cases h
 ·unfold compS at h;split at h
  ·cases h;exact rng_vB _
  ·cases h
def rngC(C:Cfg):Prop:=∀p∈C.state,qcx p.v
def rngM(s:MS):Prop:=(∀p∈s.vars,qcx p.2)∧∀p∈s.own,qcx p.2
theorem rng_nil:qcx V.nil:=⟨⟨by decide,by decide⟩,by simp[V.nil]⟩
theorem rng_getP{l:List Pr}(h:∀p∈l,qcx p.v)(k:qac):qcx (getP l k):=by
 induction l with
 |nil=>exact rng_nil
 |cons p l ih =>
  rw[getP];split
  ·exact h p (by simp)
  ·exact ih fun q hq=>h q (by simp[hq])
theorem kGet_mem{α:Type}{l:List (qac×α)}{k:qac}{v:α}(h:qbg l k=some v):(k,v)∈l:=by
 induction l with
 |nil=>cases h
 |cons p l ih =>
  rw[qbg]at h;split at h
  ·rename_i hp;cases h;subst hp;simp
  ·simp[ih h]
theorem kSet_mem{α:Type}{l:List (qac×α)}{k:qac}{v:α}{p:qac×α}(h:p∈qbr l k v):p=(k,v)∨p∈l:=by
 induction l with
 |nil=>simpa[qbr]using h
 |cons q l ih =>
  rw[qbr]at h;split at h
  ·rcases List.mem_cons.1 h with h|h
   ·exact .inl h
   ·exact .inr (by simp[h])
  ·rcases List.mem_cons.1 h with h|h
   ·exact .inr (by simp[h])
   ·rcases ih h with h|h
    ·exact .inl h
    ·exact .inr (by simp[h])
structure EvOk(s:MS)(n:Nat)(s':MS):Prop where
 eq:s' = { s with reads:=s'.reads }
 asc:ascS s'.reads
 len:s'.reads.length≤s.reads.length+n
theorem EvOk.refl{s:MS}(h:ascS s.reads)(n:Nat):EvOk s n s:=⟨rfl,h,by omega⟩
theorem EvOk.trans{s t u:MS}{n k:Nat}(h:EvOk s n t)(g:EvOk t k u):EvOk s (n+k) u:=by
 refine⟨?_,g.asc,by have:=h.len;have:=g.len;omega⟩;have h1:=h.eq;have h2:=g.eq;rw[h1]at h2;exact h2
theorem EvOk.mono{s t:MS}{n k:Nat}(h:EvOk s n t)(hk:n≤k):EvOk s k t:=⟨h.eq,h.asc,by have:=h.len;omega⟩
theorem EvOk.rng{s t:MS}{n:Nat}(h:EvOk s n t)(hr:rngM s):rngM t:=by rw[h.eq];exact hr
theorem EvOk.steps{s t:MS}{n:Nat}(h:EvOk s n t):t.steps=s.steps:=by rw[h.eq]
theorem EvOk.vars{s t:MS}{n:Nat}(h:EvOk s n t):t.vars=s.vars:=by rw[h.eq]
theorem EvOk.out{s t:MS}{n:Nat}(h:EvOk s n t):t.out=s.out:=by rw[h.eq]
theorem EvOk.puts{s t:MS}{n:Nat}(h:EvOk s n t):t.puts=s.puts:=by rw[h.eq]
section
variable {C:Cfg}
theorem fetch_ok(hC:rngC C){s:MS}(hM:rngM s)(ha:ascS s.reads)(k:qac):EvOk s 1 (qc0 C k s).2∧∀v,(qc0 C k s).1=.ok v→qcx v:=by
 unfold qc0;split
 ·exact⟨.refl ha _,fun v h=>by cases h⟩
 split
 ·rename_i w hw;exact⟨.refl ha _,fun v h=>by cases h;exact hM.2 _ (kGet_mem hw)⟩
 split
 ·exact⟨.refl ha _,fun v h=>by cases h⟩
 ·exact⟨⟨rfl,withS_asc ha k,withS_len _ _⟩,fun v h=>by cases h;exact rng_getP hC k⟩
theorem op_ok(hC:rngC C){s:MS}(hM:rngM s)(ha:ascS s.reads)(op:Int){l:List V}(hl:∀v∈l,qcx v):EvOk s 1 (opS C op l s).2∧∀v,(opS C op l s).1=.ok v→qcx v:=by
 unfold opS;split
 ·rename_i a;unfold unS;have hx:∀v,qcs (qdn a.n)=.ok v→qcx v:=fun v hv=>by
   unfold qcs at hv;split at hv
   ·cases hv;exact rng_vI (i64_neg _)
   ·split at hv<;>cases hv
  split
  ·refine⟨.refl ha _,fun v h=>?_⟩;split at h
   ·exact hx v h
   ·cases h
  split
  ·refine⟨.refl ha _,fun v h=>?_⟩;split at h
   ·cases h;exact rng_vB _
   ·cases h
  split
  ·refine⟨.refl ha _,fun v h=>?_⟩;split at h
   ·exact rng_text h
   ·cases h
  split
  ·refine⟨.refl ha _,fun v h=>?_⟩;split at h
   ·cases h;have:=(hl a (by simp)).2;exact rng_vI ⟨by omega,by omega⟩
   ·cases h
  split
  ·exact⟨.refl ha _,fun v h=>by cases h⟩
  ·have hf:=fetch_ok hC hM ha a.s;split
   ·rename_i z m' hz;rw[hz]at hf;exact⟨hf.1,fun v h=>by cases h⟩
   ·rename_i w m' hz;rw[hz]at hf;refine⟨hf.1,fun v h=>?_⟩;simp only[gotS]at h;split at h
    ·cases h;exact rng_vB _
    split at h
    ·cases h;exact rng_vI ⟨by decide,by decide⟩
    split at h
    ·exact rng_text h
    split at h
    ·cases h
    ·cases h;exact hf.2 _ rfl
 ·exact⟨.refl ha _,fun v h=>rng_bin (hl _ (by simp)) h⟩
 ·exact⟨.refl ha _,fun v h=>by cases h⟩
mutual
theorem evE_ok(hC:rngC C):∀(e:Ex) (s:MS),rngX e→rngM s→ascS s.reads→EvOk s (nodes e) (evE C e s).2∧∀v,(evE C e s).1=.ok v→qcx v
 | .mk op n t args,s,hX,hM,ha=>by
  have hX':=(qdd _).1 hX;simp only[Ex.n,Ex.s,Ex.args]at hX';rw[evE];split
  ·exact⟨.refl ha _,fun v h=>by cases h;exact rng_vI hX'.1.1⟩
  split
  ·exact⟨.refl ha _,fun v h=>by cases h;exact⟨⟨by simp[vS],by simp[vS]⟩,hX'.1.2⟩⟩
  split
  ·refine⟨.refl ha _,fun v h=>?_⟩;simp only at h;split at h
   ·rename_i w hw;cases h;exact hM.1 _ (kGet_mem hw)
   ·cases h
  ·have hL:=evL_ok hC args s hX'.2 hM ha;have hn:nodes (.mk op n t args)=nodesL args+1:=nodes_eq _;split
   ·rename_i z m' hz;rw[hz]at hL;exact⟨hL.1.mono (by omega),fun v h=>by cases h⟩
   ·rename_i l m' hz;rw[hz]at hL;have ho:=op_ok hC (hL.1.rng hM) hL.1.asc op (l:=l) (hL.2 l rfl);exact⟨(hL.1.trans ho.1).mono (by omega),ho.2⟩
theorem evL_ok(hC:rngC C):∀(l:List Ex) (s:MS),(∀e∈l,rngX e)→rngM s→ascS s.reads→EvOk s (nodesL l) (evL C l s).2∧∀r,(evL C l s).1=.ok r→∀v∈r,qcx v
 | [],s,_,_,ha=>by
  rw[evL];exact⟨.refl ha _,fun r h=>by cases h;simp⟩
 |e::l,s,hX,hM,ha=>by
  have hE:=evE_ok hC e s (hX e (by simp)) hM ha;rw[evL,nodesL_cons];split
  ·rename_i z m' hz;rw[hz]at hE;exact⟨hE.1.mono (by omega),fun r h=>by cases h⟩
  ·rename_i w m' hz;rw[hz]at hE;have hL:=evL_ok hC l m' (fun x hx=>hX x (by simp[hx])) (hE.1.rng hM) hE.1.asc;split
   ·rename_i z m'' hz';rw[hz']at hL;exact⟨hE.1.trans hL.1,fun r h=>by cases h⟩
   ·rename_i r' m'' hz';rw[hz']at hL;refine⟨hE.1.trans hL.1,fun r h=>?_⟩;cases h;intro v hv;rcases List.mem_cons.1 hv with rfl|hv
    ·exact hE.2 _ rfl
    ·exact hL.2 _ rfl v hv
end
end
end Go.Cw
