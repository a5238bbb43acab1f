/- Part 20 of a proof. -/
import Derived.Test.YtolejdhnnchfpaaGreatDoorQ13
import Derived.Test.YtolejdhnnchfpaaGreatDoorQ19
set_option linter.all false
namespace Go.Cw
open Go Go.Abs
@[simp] theorem jlh:qm2 (.map none)=.val (.map none):=rfl
theorem xnz{α:Type}{f:α->AV}{l:List (ig×α)}{a b:AV}(h:(a,b)∈mr f l):∃s x,a=S s/\b=f x:=by grind[mr,ra,qi3,Prod.mk.injEq]
theorem xd9{α:Type}{f:α->AV}(hf:∀(n:Nat) (a:α),(f a).under n=true)(n:Nat)(l:List (ig×α)):(AObj.map (mr f l)).under n=true:=by
 simp only[AObj.under,dr,cw];rintro⟨a,b⟩ hp;obtain⟨s,x,rfl,rfl⟩:=xnz hp;exact⟨rfl,hf n x⟩
theorem qy7{t:St}{d:Nat}(h:okS t d)(h0:t.op≠8):py t.a 1=0:=by
 have h1:=((qso t d).1 h).1;refine jf7 h1 ?_;unfold qc8 at h1;unfold uo at h1|-;grind
theorem qz2{t:St}{d:Nat}(h:okS t d)(h0:t.op=3\/t.op=6):py t.b 1=0:=by
 have h1:=((qso t d).1 h).1;refine jba h1 ?_;unfold uo;grind
def xm(l:List St)(f:TS->Int×TS)(s:TS):Int×TS:=if (f s).1≠0 then f s else(0,⟨qph l (f s).2.visible,(f s).2.loops,(f s).2.all⟩)
def qwc(t:St)(B E:TS->Int×TS)(s:TS):Int×TS :=
 if (uf s.visible t).2.2≠0 then((uf s.visible t).2.2,s)
 else if t.op=1 then(0,s.decl t.name (uf s.visible t).1)
 else if t.op=2 then
  match kz s.visible t.name with
  |none=>(11,s)
  |some ty=>(if kz s.loops t.name=some true then 7 else if ty≠(uf s.visible t).1 then 10 else 0,s)
 else if t.op=3 then(if (uf s.visible t).1≠2\/(uf s.visible t).2.1=3 then 10 else 0,s)
 else if t.op=4 then(if (uf s.visible t).1≠2 then 10 else 0,s)
 else if t.op=7 then(if (uf s.visible t).1=3 then 10 else 0,s)
 else if t.op=5 then
  if (uf s.visible t).1≠3 then(10,s)
  else if (xm t.body B s).1≠0 then xm t.body B s else xm t.els E (xm t.body B s).2
 else if t.op=6 then
  if (uf s.visible t).1≠1\/(uf s.visible t).2.1≠1 then(10,s)
  else
   let x:=xm t.body B ⟨lx s.visible t.name 1,lx s.loops t.name true,lx s.all t.name 1⟩
   (x.1,⟨qog x.2.visible t.name,x.2.loops,x.2.all⟩)
 else(0,s)
mutual
def stT:St->TS->Int×TS
 | .mk op name mx a b body els,s=>qwc (.mk op name mx a b body els) (λx=>ui body x) (λx=>ui els x) s
def ui:List St->TS->Int×TS
 | [],s=>(0,s)
 |t::l,s=>if (stT t s).1≠0 then stT t s else ui l (stT t s).2
end
theorem xjv(t:St)(s:TS):stT t s=qwc t (ui t.body) (ui t.els) s:=by cases t;rw[stT];rfl
abbrev qqd(l:List St)(s:TS):Int×TS:=xm l (ui l) s
def qx8:List (ig×Bool)->List ig->Bool
 |_,[]=>false
 |met,x::l=>(kz met x).getD false||qx8 (lx met x true) l
def qum(l:List Param)(s:TS):TS:=l.foldl (λs x=>s.decl x.name x.ty) s
def qtb(p:Proc):Int :=
 if qps p≠0 then qps p
 else if p.params.any (λx=>decide (x.ty=3))then 10
 else if qx8 [] (qrq p)then 8
 else(qqd p.body (qum p.params ⟨[],[],[]⟩)).1
def xfb(x:Param)(v:V):Bool:=(decide (v.k=1)&&decide (v.s=em)&&decide (x.ty=1))||(decide (v.k=2)&&decide (v.n=0)&&pp v.s&&decide (x.ty=2))
def qur:List Param->List V->Bool
 |x::l,v::r=>xfb x v&&qur l r
 |_,_=>true
def qrd(p:Proc)(args:List V):Int :=
 if qtb p≠0\/args.length≠p.params.length then 1 else if qur p.params args then 0 else 10
mutual
def qqe:Ex->List Ex
 | .mk op n s args=>.mk op n s args::zy args
def zy:List Ex->List Ex
 | []=>[]
 |e::l=>qqe e++zy l
end
theorem xqa(e:Ex):qqe e=e::zy e.args:=by cases e;rw[qqe];rfl
def xcy:List Ex->Int->Int×Int×Bool
 | [],_=>(0,0,false)
 |e::l,k=>if qvl e.op then(e.op,k,true)else xcy l (k+1)
def qy6(p:Proc):Int×Int×Bool:=if qps p≠0 then(0,0,false)else xcy (zy (uw p)) 0
def qwe(p:Proc):Int:=if qtb p≠0 then qtb p else if (qy6 p).2.2 then 12 else 0
structure Cnt where
 st:Int
 ge:Int
 pu:Int
 em:Int
def Cnt.c(x:Cnt):List AV:=[I x.st,I x.ge,I x.pu,I x.em]
def mn(a b:Int):Int:=if b<a then b else a
def mx(a b:Int):Int:=if a<b then b else a
theorem qm5(a b:Int):(if b<a then b else a)=mn a b:=rfl
theorem xdt(a b:Int):(if a<b then b else a)=mx a b:=rfl
theorem qpx:IntKind.i64.wrap 3=3:=ba
theorem qpv:IntKind.i64.wrap 4=4:=ba
def Cnt.plus(x y:Cnt):Cnt:=⟨mn (pi (x.st+y.st)) 16385,mn (pi (x.ge+y.ge)) 16385,mn (pi (x.pu+y.pu)) 16385,mn (pi (x.em+y.em)) 16385⟩
def Cnt.times(x:Cnt)(n:Int):Cnt:=⟨mn (pi (x.st * n)) 16385,mn (pi (x.ge * n)) 16385,mn (pi (x.pu * n)) 16385,mn (pi (x.em * n)) 16385⟩
def Cnt.larger(x y:Cnt):Cnt:=⟨mx x.st y.st,mx x.ge y.ge,mx x.pu y.pu,mx x.em y.em⟩
mutual
def xz:Ex->Int
 | .mk op _ _ args=>mn (wh args (if op=22\/op=23\/op=24 then 1 else 0)) 16385
def wh:List Ex->Int->Int
 | [],n=>n
 |e::l,n=>wh l (pi (n+xz e))
end
theorem xu0(e:Ex):xz e=mn (wh e.args (if e.op=22\/e.op=23\/e.op=24 then 1 else 0)) 16385:=by cases e;rw[xz];rfl
def qmt(t:St):Cnt :=
 let g:=if t.op=8 then 0 else xz t.a
 if t.op=3 then⟨1,mn (pi (g+xz t.b)) 16385,1,0⟩
 else if t.op=4 then⟨1,g,1,0⟩
 else if t.op=7 then⟨1,g,0,1⟩
 else if t.op=6 then⟨pi (1+t.max),mn (pi (g+xz t.b)) 16385,0,0⟩
 else⟨1,g,0,0⟩
mutual
def qxi:St->Cnt
 | .mk op name m a b body els =>
  if op=5 then(qmt (.mk op name m a b body els)).plus ((qrm body ⟨0,0,0,0⟩).larger (qrm els ⟨0,0,0,0⟩))
  else if op=6 then(qmt (.mk op name m a b body els)).plus ((qrm body ⟨0,0,0,0⟩).times m)
  else qmt (.mk op name m a b body els)
def qrm:List St->Cnt->Cnt
 | [],c=>c
 |t::l,c=>qrm l (c.plus (qxi t))
end
abbrev sf(l:List St):Cnt:=qrm l ⟨0,0,0,0⟩
theorem xtv(t:St):qxi t=if t.op=5 then(qmt t).plus ((sf t.body).larger (sf t.els))else if t.op=6 then(qmt t).plus ((sf t.body).times t.max)else qmt t:=by
 cases t;rw[qxi];rfl
def qdq(p:Proc):Int :=
 if qwe p≠0 then qwe p
 else if 16384<(sf p.body).st then 13
 else if 64<(sf p.body).ge\/64<(sf p.body).pu\/16<(sf p.body).em then 2
 else 0
structure Stop where
 status:Int
 code:Int
 miss:ig
def ab(code:Int):Stop:=⟨2,code,em⟩
def rst(key:ig):Stop:=⟨3,0,key⟩
structure MS where
 vars:List (ig×V)
 own:List (ig×V)
 out:List V
 reads:List ig
 puts:List ig
 steps:Nat
def MS.nil:MS:=⟨[],[],[],[],[],0⟩
def vI(n:Int):V:=⟨1,n,em⟩
def vS(s:ig):V:=⟨2,0,s⟩
def vB(b:Bool):V:=⟨3,if b then 1 else 0,em⟩
abbrev EV:=Except Stop V
def qmv(s:ig):EV:=if 64<(s.size:Int)then .error (ab 1006)else .ok (vS s)
def ve(r:Int×Int):EV:=if r.2=0 then .ok (vI r.1)else if r.2=4 then .error (ab 1002)else .error (ab 1001)
def qlx(op a b:Int):EV:=if op=4 then ve (qwi a b)else if op=5 then ve (qwd a b)else if op=6 then ve (qsl a b)else if op=7 then ve (qt7 a b)else ve (qta a b)
def qwp(op c:Int):Bool:=if op=10 then decide (c=0)else if op=11 then !decide (c=0)else if op=12 then decide (c<0)else if op=13 then decide (c<=0)else if op=14 then decide (0<c)else decide (0<=c)
def que(op:Int)(a b:V):EV:=if a.k=b.k/\(a.k=1\/a.k=2\/(a.k=3/\op<=11))then .ok (vB (qwp op (qq8 a b)))else .error (ab 1009)
def ug(op:Int)(a b:V):EV :=
 if op=4\/op=5\/op=6\/op=7\/op=8 then(if a.k=1/\b.k=1 then qlx op a.n b.n else .error (ab 1009))
 else if op=16 then(if a.k=3/\b.k=3 then .ok (vB (decide (a.n=1)&&decide (b.n=1)))else .error (ab 1009))
 else if op=17 then(if a.k=3/\b.k=3 then .ok (vB (decide (a.n=1)||decide (b.n=1)))else .error (ab 1009))
 else if op=19 then(if a.k=2/\b.k=2 then qmv (a.s++b.s)else .error (ab 1009))
 else que op a b
def l7(k:ig):List ig->Nat
 | []=>0
 |x::l=>if js x k then l7 k l+1 else 0
def yv(l:List ig)(k:ig):List ig:=if l[l7 k l]?=some k then l else l.take (l7 k l)++k::l.drop (l7 k l)
structure Cfg where
 state:List Pr
 all:Bool
 rd:List ig
 wr:List ig
 fmt:Int->ig
section
variable (C:Cfg)
def um(key:ig)(m:MS):EV×MS :=
 if sw key=false then(.error (ab 1004),m)
 else match kz m.own key with
  |some v=>(.ok v,m)
  |none=>if C.all=false/\l8 C.rd key=false then(.error (rst key),m)
   else(.ok (jw C.state key),{ m with reads:=yv m.reads key })
def tv(key:ig)(v:V)(m:MS):Except Stop Unit×MS :=
 if sw key=false then(.error (ab 1004),m)
 else if C.all=false/\l8 C.wr key=false then(.error (rst key),m)
 else(.ok (),{ m with puts:=yv m.puts key,own:=lx m.own key v })
def yx(v:V)(m:MS):Except Stop Unit×MS:=if m.out.length=16 then(.error (ab 1007),m)else(.ok (),{ m with out:=m.out++[v] })
def wv(m:MS):Except Stop Unit×MS:=(if 16384<m.steps+1 then .error (ab 1008)else .ok (),{ m with steps:=m.steps+1 })
def qwk(op:Int)(v:V):EV :=
 if op=24 then .ok (vB (!decide (v.k=0)))
 else if op=22/\v.k=0 then .ok (vI 0)
 else if op=23/\v.k=0 then qmv em
 else if (op=22/\v.k≠1)\/(op=23/\v.k≠2)then .error (ab 1003)
 else .ok v
def unS(op:Int)(a:V)(m:MS):EV×MS :=
 if op=9 then(if a.k=1 then ve (qql a.n)else .error (ab 1009),m)
 else if op=18 then(if a.k=3 then .ok (vB (decide (a.n=0)))else .error (ab 1009),m)
 else if op=20 then(if a.k=1 then qmv (C.fmt a.n)else .error (ab 1009),m)
 else if op=21 then(if a.k=2 then .ok (vI a.s.size)else .error (ab 1009),m)
 else if a.k≠2 then(.error (ab 1009),m)
 else match um C a.s m with
  |(.error z,m')=>(.error z,m')
  |(.ok v,m')=>(qwk op v,m')
def vz(op:Int)(l:List V)(m:MS):EV×MS :=
 match l with
 | [a]=>unS C op a m
 | [a,b]=>(ug op a b,m)
 |_=>(.error (ab 1009),m)
mutual
def mg:Ex->MS->EV×MS
 | .mk op n s args,m =>
  if op=1 then(.ok (vI n),m)
  else if op=2 then(.ok (vS s),m)
  else if op=3 then((match kz m.vars s with|some v=>.ok v|none=>.error (ab 1009)),m)
  else match pa args m with
   |(.error z,m')=>(.error z,m')
   |(.ok l,m')=>vz C op l m'
def pa:List Ex->MS->Except Stop (List V)×MS
 | [],m=>(.ok [],m)
 |e::l,m=>match mg e m with
  |(.error z,m')=>(.error z,m')
  |(.ok v,m')=>match pa l m' with
   |(.error z,lh)=>(.error z,lh)
   |(.ok r,lh)=>(.ok (v::r),lh)
end
theorem xzp(e:Ex)(m:MS):mg C e m=if e.op=1 then(.ok (vI e.n),m)
  else if e.op=2 then(.ok (vS e.s),m)
  else if e.op=3 then((match kz m.vars e.s with|some v=>.ok v|none=>.error (ab 1009)),m)
  else match pa C e.args m with
   |(.error z,m')=>(.error z,m')
   |(.ok l,m')=>vz C e.op l m':=by cases e;rw[mg];rfl
def q8(body:MS->Except Stop Unit×MS)(name:ig)(b:Int):Nat->Int->MS->Except Stop Unit×MS
 | 0,_,m=>(.ok (),m)
 |f+1,i,m =>
  if i<b then
   match wv m with
   |(.error z,m')=>(.error z,m')
   |(.ok _,m')=>match body { m' with vars:=lx m'.vars name (vI i) }with
    |(.error z,lh)=>(.error z,lh)
    |(.ok _,lh)=>q8 body name b f (pi (i+1)) lh
  else(.ok (),m)
def qx5(a b:Int)(mx:Int):Prop:=a<b/\IntKind.u64.wrap mx<IntKind.u64.wrap (IntKind.u64.wrap b - IntKind.u64.wrap a)
instance (a b mx:Int):Decidable (qx5 a b mx):=inferInstanceAs (Decidable (_/\_))
mutual
def r7:St->MS->Except Stop Unit×MS
 | .mk op name mx a b body els,m =>
  if op=1\/op=2 then
   match mg C a m with
   |(.error z,m')=>(.error z,m')
   |(.ok v,m')=>(.ok (),{ m' with vars:=lx m'.vars name v })
  else if op=3 then
   match mg C a m with
   |(.error z,m')=>(.error z,m')
   |(.ok k,m')=>match mg C b m' with
    |(.error z,lh)=>(.error z,lh)
    |(.ok v,lh)=>if k.k=2/\(v.k=1\/v.k=2)then tv C k.s v lh else(.error (ab 1009),lh)
  else if op=4 then
   match mg C a m with
   |(.error z,m')=>(.error z,m')
   |(.ok k,m')=>if k.k=2 then tv C k.s V.nil m' else(.error (ab 1009),m')
  else if op=5 then
   match mg C a m with
   |(.error z,m')=>(.error z,m')
   |(.ok c,m')=>if c.k=3 then(if c.n=1 then mc body m' else mc els m')else(.error (ab 1009),m')
  else if op=6 then
   match mg C a m with
   |(.error z,m')=>(.error z,m')
   |(.ok u,m')=>match mg C b m' with
    |(.error z,lh)=>(.error z,lh)
    |(.ok v,lh) =>
     if u.k=1/\v.k=1 then
      (if qx5 u.n v.n mx then(.error (ab 1005),lh)else q8 (λx=>mc body x) name v.n 16386 u.n lh)
     else(.error (ab 1009),lh)
  else if op=7 then
   match mg C a m with
   |(.error z,m')=>(.error z,m')
   |(.ok v,m')=>if v.k=1\/v.k=2 then yx v m' else(.error (ab 1009),m')
  else if op=8 then(.error (ab mx),m)
  else(.ok (),m)
def mc:List St->MS->Except Stop Unit×MS
 | [],m=>(.ok (),m)
 |t::l,m=>match wv m with
  |(.error z,m')=>(.error z,m')
  |(.ok _,m')=>match r7 t m' with
   |(.error z,lh)=>(.error z,lh)
   |(.ok _,lh)=>mc l lh
end
end
def qmj:Except Stop Unit×MS->Eff
 |(.error z,m)=>⟨z.status,z.code,[],m.reads,m.puts,[],z.miss,m.steps⟩
 |(.ok _,m)=>⟨1,0,m.out,m.reads,m.puts,m.puts.map λk=>⟨k,(kz m.own k).getD V.nil⟩,em,m.steps⟩
def yj:Eff:=⟨2,1009,[],[],[],[],em,0⟩
def qr0:List Param->List V->List (ig×V)->List (ig×V)
 |x::l,v::r,m=>qr0 l r (lx m x.name v)
 |_,_,m=>m
def oi(fmt:Int->ig)(p:Proc)(args:List V)(st:List Pr)(ft:Foot):Eff :=
 if qdq p≠0\/qrd p args≠0\/jl st=false\/qa ft.all ft.reads ft.writes=false then yj
 else qmj (mc ⟨st,ft.all,ft.reads,ft.writes,fmt⟩ p.body ⟨qr0 p.params args [],[],[],[],[],0⟩)
def scan(stop:Ex->Bool):List Ex->Nat->Nat×Option Ex
 | [],k=>(k,none)
 |e::l,k=>if stop e then(k,some e)else scan stop l (k+1)
theorem xsa(stop:Ex->Bool):∀(a b:List Ex) (k:Nat),scan stop (a++b) k=match scan stop a k with
  |(k',some e)=>(k',some e)
  |(k',none)=>scan stop b k'
 | [],b,k=>rfl
 |e::a,b,k=>by
  simp only[qix,scan];split
  .rfl
  .simp[xsa]
theorem jcu(stop:Ex->Bool)(e:Ex)(k:Nat):scan stop (qqe e) k=if stop e then(k,some e)else scan stop (zy e.args) (k+1):=by
 rw[xqa,scan]
theorem xr8(stop:Ex->Bool)(e:Ex)(l:List Ex)(k:Nat):scan stop (zy (e::l)) k=match scan stop (qqe e) k with
  |(k',some x)=>(k',some x)
  |(k',none)=>scan stop (zy l) k':=by
 rw[zy,xsa]
theorem xnr(l:List Ex):∀k:Nat,xcy l k=match scan (λe=>qvl e.op) l k with
  |(k',some e)=>(e.op,(k':Int),true)
  |(_,none)=>(0,0,false):=by
 induction l with
 |nil=>intro k;rfl
 |cons e l ih =>
  intro k;simp only[xcy,scan];by_cases h:qvl e.op=true
  .grind
  .grind
theorem je7(a:Int):IntKind.i64.wrap (IntKind.i64.wrap a+1)=IntKind.i64.wrap (a+1):=by
 simp only[IntKind.wrap,IntKind.bits,IntKind.signed];simp;omega
section
def i64(n:Int):Prop:=-9223372036854775808<=n/\n<=9223372036854775807
theorem jda(n:Int):i64 (IntKind.i64.wrap n):=by
 simp only[i64,IntKind.wrap,IntKind.bits,IntKind.signed];simp;omega
def oj(v:V):Prop:=i64 v.n/\v.s.size<=4294967296
def vd:Ex->Prop
 | .mk _ n s args=>(i64 n/\s.size<=4294967296)/\∀x∈args.attach,vd x.1
termination_by e=>SizeOf.sizeOf e
decreasing_by
 have:=gb x.2;simp only[Ex.mk.sizeOf_spec];omega
theorem qw1(e:Ex):vd e↔(i64 e.n/\e.s.size<=4294967296)/\∀x∈e.args,vd x:=by
 cases e with
 |mk op n s args =>
  rw[vd];simp[Ex.n,Ex.s,Ex.args]
def nodes(e:Ex):Nat:=(qqe e).length
def qtk(l:List Ex):Nat:=(zy l).length
theorem xih(e:Ex):nodes e=qtk e.args+1:=by rw[nodes,xqa];rfl
theorem xj5(e:Ex)(l:List Ex):qtk (e::l)=nodes e+qtk l:=by rw[qtk,zy,c7];rfl
mutual
theorem xqj:∀(e:Ex) (d k:Nat),py e d=0->d+k=13->nodes e+1<=2 ^ k
 | .mk op n s args,d,k,h,hk=>by
  have har:=xbk h;rw[qyz]at h;split at h
  .rename_i h0;have hd:d<=12:=by grind[qd1]
   have h2:args.length<=2:=by grind[Ex.args,arity]
   have h1:=xsf args (d+1) (k - 1) h aa;rw[xih];simp only[Ex.args];have hp:2 ^ k=2 * 2 ^ (k - 1):=by rw[<-Nat.pow_succ'];congr 1;omega
   have hpos:1<=2 ^ (k - 1):=Nat.one_le_two_pow;have h3:args.length=0\/args.length=1\/args.length=2:=aa;rcases h3 with h3|h3|h3<;>rw[h3]at h1<;>omega
  .omega
theorem xsf:∀(l:List Ex) (d k:Nat),qk4 l d=0->d+k=13->qtk l+l.length<=l.length * 2 ^ k
 | [],d,k,_,_=>by simp[qtk,zy]
 |e::l,d,k,h,hk=>by
  rw[qk4]at h;split at h
  .rename_i h0;have h1:=xqj e d k h0 hk;have h2:=xsf l d k h hk;rw[xj5,dy,Nat.succ_mul];omega
  .omega
end
section
variable {P:Program} {E:Ent} {Q:AExit->Env->Prop} {e:Env}
theorem qvb{α:Type}{b:Code}(I:α->Prop)(S:α->Env)(μ:α->Nat)(a0:α)(h0:I a0)(hw:Wk E e (S a0))
  (step:∀a,I a->wpC P E b (AExit.then (λe'=>∃a',I a'/\μ a'<μ a/\Wk E e' (S a')) Q) (S a)):AWp P E (.loop b) Q e :=
 xhg (ι:=α) (I:=I) (S:=S) (μ:=μ) a0 h0 hw λa hI=>jo _ _ _ (step a hI)
end
abbrev kg(l:List ig):Prop:=l.Pairwise λa b=>js a b=true
theorem qwn(k:ig):∀l,l7 k l<=l.length
 | []=>cn _
 |x::l=>by
  rw[l7];split
  .simp[qwn]
  .simp
theorem qwq{k:ig}:∀{l:List ig},kg l->∀(n:Nat) (h:n<l.length),(n<l7 k l↔js l[n] k=true)
 | [],_,n,h=>by simp at h
 |x::l,ha,n,h=>by
  obtain⟨h1,h2⟩:=eh.1 ha;rw[l7];by_cases hx:js x k=true
  .rw[if_pos hx];cases n with
   |zero=>simp[hx]
   |succ n =>
    have:=qwq (k:=k) h2 n af;simp only[List.getElem_cons_succ];rw[<-this];omega
  .rw[if_neg hx];cases n with
   |zero=>simp[hx]
   |succ n =>
    simp only[List.getElem_cons_succ];refine⟨λh=>by omega,λhn=>?_⟩;exact(hx (qdc (h1 _ (dk _)) hn)).elim
theorem qz7{l:List ig}(ha:kg l)(k:ig):kg (yv l k):=by
 unfold yv;split
 .exact ha
 .rename_i it;have ij:=qwn k l;refine List.pairwise_append.2 ⟨ha.sublist (List.take_sublist _ _),eh.2 ⟨λb hb=>?_,ha.sublist (qka _ _)⟩,λa hA b hb=>?_⟩
  .obtain⟨i,hi,rfl⟩:=qja hb;rw[List.getElem_drop];have ke:l7 k l+i<l.length:=af;have hnot:js l[l7 k l+i] k=false:=by
    cases h:js l[l7 k l+i] k with
    |false=>rfl
    |true=>have:=(qwq ha _ ke).2 h;omega
   cases hki:js k l[l7 k l+i]with
   |true=>rfl
   |false =>
    have:=qwz k l[l7 k l+i];rw[hki,hnot]at this;simp at this
    -- equal: only the first can be
    cases i with
    |zero =>
     simp only[ea]at this;exact(it af).elim
    |succ i =>
     have hp:=(qjs.1 ha) (l7 k l) (l7 k l+(i+1)) aa ke aa;rw[<-this]at hp;have:=(qwq ha (l7 k l) aa).2 hp;omega
  .grind[qwq,qjs,qja]
theorem xal(l:List ig)(k:ig):(yv l k).length<=l.length+1:=by grind[yv,qwn]
abbrev tu(v:V):AV:=.agg v.c
@[simp] theorem joi(l:List (ig×V))(s:ig)(x:V):ra (qsi (l.map λp=>(p.1,tu p.2)) s (.agg [I x.k,I x.n,S x.s]))=mr tu (lx l s x):=xnb tu l s x
structure MQ where
 vars:List (ig×V)
 own:List (ig×V)
 out:List V
 reads:List ig
 puts:List ig
 no:Nat
 nr:Nat
 np:Nat
 steps:Int
def MS.q(s:MS):MQ:=⟨s.vars,s.own,s.out,s.reads,s.puts,s.out.length,s.reads.length,s.puts.length,s.steps⟩
@[simp] theorem jn8(s:MS):s.q.vars=s.vars:=rfl
@[simp] theorem jo5(s:MS):s.q.own=s.own:=rfl
@[simp] theorem jm5(s:MS):s.q.out=s.out:=rfl
@[simp] theorem jod(s:MS):s.q.reads=s.reads:=rfl
@[simp] theorem jo2(s:MS):s.q.puts=s.puts:=rfl
@[simp] theorem jlj(s:MS):s.q.no=s.out.length:=rfl
@[simp] theorem jok(s:MS):s.q.nr=s.reads.length:=rfl
@[simp] theorem jl6(s:MS):s.q.np=s.puts.length:=rfl
@[simp] theorem jpg(s:MS):s.q.steps=s.steps:=rfl
def mC(C:Cfg)(v o io ir ip:Nat)(q:MQ):List AV :=
 [.slice (C.state.map Pr.c),Bo C.all,.slice (C.rd.map ja),.slice (C.wr.map ja),.mapr v,.mapr o,I 0,I 0,.own io q.no,.own ir q.nr,.own ip q.np,.nils,S em,I q.steps]
structure MH(C:Cfg)(tb:AObj)(tV tS:Nat)(g m v o io ir ip:Nat)(K:MQ->g9)(n0:Nat):Prop where
 len:∀q,(K q).length=n0
 hg:g<n0
 hm:m<n0
 hv:v<n0
 ho:o<n0
 hio:io<n0
 hir:ir<n0
 hip:ip<n0
 lg:∀q,(K q)[g]?=some tb
 lm:∀q,(K q)[m]?=some (.cells (mC C v o io ir ip q))
 lv:∀q,(K q)[v]?=some (.map (mr tu q.vars))
 lo:∀q,(K q)[o]?=some (.map (mr tu q.own))
 lio:∀q,(K q)[io]?=some (.arr tV 3 (q.out.map V.c))
 lir:∀q,(K q)[ir]?=some (.uarr tS 1 (q.reads.map ja))
 lip:∀q,(K q)[ip]?=some (.uarr tS 1 (q.puts.map ja))
 sm:∀q no nr np (st:Int),(K q).set m (.cells (mC C v o io ir ip ⟨q.vars,q.own,q.out,q.reads,q.puts,no,nr,np,st⟩))=K ⟨q.vars,q.own,q.out,q.reads,q.puts,no,nr,np,st⟩
 sv:∀q x,(K q).set v (.map (mr tu x))=K ⟨x,q.own,q.out,q.reads,q.puts,q.no,q.nr,q.np,q.steps⟩
 so:∀q x,(K q).set o (.map (mr tu x))=K ⟨q.vars,x,q.out,q.reads,q.puts,q.no,q.nr,q.np,q.steps⟩
 sio:∀q (x:List V),(K q).set io (.arr tV 3 (x.map V.c))=K ⟨q.vars,q.own,x,q.reads,q.puts,q.no,q.nr,q.np,q.steps⟩
 sir:∀q (x:List ig),(K q).set ir (.uarr tS 1 (x.map ja))=K ⟨q.vars,q.own,q.out,x,q.puts,q.no,q.nr,q.np,q.steps⟩
 sip:∀q (x:List ig),(K q).set ip (.uarr tS 1 (x.map ja))=K ⟨q.vars,q.own,q.out,q.reads,x,q.no,q.nr,q.np,q.steps⟩
 und:∀q,hUnder n0 (K q)=true
section
variable {C:Cfg} {tb:AObj} {tV tS g m v o io ir ip:Nat} {K:MQ->g9} {n0:Nat}
theorem MH.gl(Y:MH C tb tV tS g m v o io ir ip K n0){i:Nat}(hi:i<n0)(q:MQ)(l:g9):(K q++l)[i]?=(K q)[i]?:=co (by rw[Y.len];exact hi)
theorem MH.lg'(Y:MH C tb tV tS g m v o io ir ip K n0)(q:MQ)(l:g9):(K q++l)[g]?=some tb:=by rw[Y.gl Y.hg,Y.lg]
theorem MH.lm'(Y:MH C tb tV tS g m v o io ir ip K n0)(q:MQ)(l:g9):(K q++l)[m]?=some (.cells (mC C v o io ir ip q)):=by rw[Y.gl Y.hm,Y.lm]
theorem MH.lv'(Y:MH C tb tV tS g m v o io ir ip K n0)(q:MQ)(l:g9):(K q++l)[v]?=some (.map (mr tu q.vars)):=by rw[Y.gl Y.hv,Y.lv]
theorem MH.lo'(Y:MH C tb tV tS g m v o io ir ip K n0)(q:MQ)(l:g9):(K q++l)[o]?=some (.map (mr tu q.own)):=by rw[Y.gl Y.ho,Y.lo]
theorem MH.lio'(Y:MH C tb tV tS g m v o io ir ip K n0)(q:MQ)(l:g9):(K q++l)[io]?=some (.arr tV 3 (q.out.map V.c)):=by rw[Y.gl Y.hio,Y.lio]
theorem MH.lir'(Y:MH C tb tV tS g m v o io ir ip K n0)(q:MQ)(l:g9):(K q++l)[ir]?=some (.uarr tS 1 (q.reads.map ja)):=by rw[Y.gl Y.hir,Y.lir]
theorem MH.lip'(Y:MH C tb tV tS g m v o io ir ip K n0)(q:MQ)(l:g9):(K q++l)[ip]?=some (.uarr tS 1 (q.puts.map ja)):=by rw[Y.gl Y.hip,Y.lip]
theorem MH.sl(Y:MH C tb tV tS g m v o io ir ip K n0){i:Nat}(hi:i<n0)(q:MQ)(y:AObj)(l:g9):(K q++l).set i y=(K q).set i y++l:=e6 _ _ (by rw[Y.len];exact hi)
theorem MH.sm'(Y:MH C tb tV tS g m v o io ir ip K n0)(q:MQ)(no nr np:Nat)(st:Int)(l:g9):(K q++l).set m (.cells (mC C v o io ir ip ⟨q.vars,q.own,q.out,q.reads,q.puts,no,nr,np,st⟩))=K ⟨q.vars,q.own,q.out,q.reads,q.puts,no,nr,np,st⟩++l:=by rw[Y.sl Y.hm,Y.sm]
theorem MH.sv'(Y:MH C tb tV tS g m v o io ir ip K n0)(q:MQ)(x:List (ig×V))(l:g9):(K q++l).set v (.map (mr tu x))=K ⟨x,q.own,q.out,q.reads,q.puts,q.no,q.nr,q.np,q.steps⟩++l:=by rw[Y.sl Y.hv,Y.sv]
theorem MH.so'(Y:MH C tb tV tS g m v o io ir ip K n0)(q:MQ)(x:List (ig×V))(l:g9):(K q++l).set o (.map (mr tu x))=K ⟨q.vars,x,q.out,q.reads,q.puts,q.no,q.nr,q.np,q.steps⟩++l:=by rw[Y.sl Y.ho,Y.so]
theorem MH.sio'(Y:MH C tb tV tS g m v o io ir ip K n0)(q:MQ)(x:List V)(l:g9):(K q++l).set io (.arr tV 3 (x.map V.c))=K ⟨q.vars,q.own,x,q.reads,q.puts,q.no,q.nr,q.np,q.steps⟩++l:=by rw[Y.sl Y.hio,Y.sio]
theorem MH.sir'(Y:MH C tb tV tS g m v o io ir ip K n0)(q:MQ)(x:List ig)(l:g9):(K q++l).set ir (.uarr tS 1 (x.map ja))=K ⟨q.vars,q.own,q.out,x,q.puts,q.no,q.nr,q.np,q.steps⟩++l:=by rw[Y.sl Y.hir,Y.sir]
theorem MH.sip'(Y:MH C tb tV tS g m v o io ir ip K n0)(q:MQ)(x:List ig)(l:g9):(K q++l).set ip (.uarr tS 1 (x.map ja))=K ⟨q.vars,q.own,q.out,q.reads,x,q.no,q.nr,q.np,q.steps⟩++l:=by rw[Y.sl Y.hip,Y.sip]
theorem MH.smx(Y:MH C tb tV tS g m v o io ir ip K n0)(q:MQ)(no nr np:Nat)(st:Int):(K q).set m (.cells [.slice (C.state.map Pr.c),Bo C.all,.slice (C.rd.map ja),.slice (C.wr.map ja),.mapr v,.mapr o,I 0,I 0,.own io no,.own ir nr,.own ip np,.nils,S em,I st])=K ⟨q.vars,q.own,q.out,q.reads,q.puts,no,nr,np,st⟩:=Y.sm q no nr np st
theorem MH.smx'(Y:MH C tb tV tS g m v o io ir ip K n0)(q:MQ)(no nr np:Nat)(st:Int)(l:g9):(K q++l).set m (.cells [.slice (C.state.map Pr.c),Bo C.all,.slice (C.rd.map ja),.slice (C.wr.map ja),.mapr v,.mapr o,I 0,I 0,.own io no,.own ir nr,.own ip np,.nils,S em,I st])=K ⟨q.vars,q.own,q.out,q.reads,q.puts,no,nr,np,st⟩++l:=Y.sm' q no nr np st l
theorem MH.sioA(Y:MH C tb tV tS g m v o io ir ip K n0)(q:MQ)(l0:List V)(x:V)(l:g9):(K q++l).set io (.arr tV 3 (l0.map V.c++[[I x.k,I x.n,S x.s]]))=K ⟨q.vars,q.own,l0++[x],q.reads,q.puts,q.no,q.nr,q.np,q.steps⟩++l:=by
 rw[<-Y.sio' q (l0++[x]) l,eg];rfl
theorem MH.und'(Y:MH C tb tV tS g m v o io ir ip K n0)(q:MQ):hUnder (K q).length (K q)=true:=by rw[Y.len];exact Y.und q
theorem MH.loc(Y:MH C tb tV tS g m v o io ir ip K n0)(q:MQ)(x:AObj)(l:g9):(K q++x::l)[n0]?=some x:=by rw[cx qfh,Y.len,fe];rfl
theorem MH.loc1(Y:MH C tb tV tS g m v o io ir ip K n0)(q:MQ)(x y:AObj)(l:g9):(K q++x::y::l)[n0+1]?=some y:=by rw[cx qfh,Y.len,show n0+1 - n0=1 by omega];rfl
theorem MH.loc2(Y:MH C tb tV tS g m v o io ir ip K n0)(q:MQ)(x y z:AObj)(l:g9):(K q++x::y::z::l)[n0+2]?=some z:=by rw[cx qfh,Y.len,show n0+2 - n0=2 by omega];rfl
theorem MH.loc3(Y:MH C tb tV tS g m v o io ir ip K n0)(q:MQ)(x y z u:AObj)(l:g9):(K q++x::y::z::u::l)[n0+3]?=some u:=by rw[cx qfh,Y.len,show n0+3 - n0=3 by omega];rfl
theorem MH.sloc2(Y:MH C tb tV tS g m v o io ir ip K n0)(q:MQ)(x y z u:AObj)(l:g9):(K q++x::z::u::l).set (n0+2) y=K q++x::z::y::l:=by
 rw[fk _ _ qfh,Y.len,show n0+2 - n0=2 by omega];rfl
theorem MH.sloc(Y:MH C tb tV tS g m v o io ir ip K n0)(q:MQ)(x y:AObj)(l:g9):(K q++x::l).set n0 y=K q++y::l:=by
 rw[fk _ _ qfh,Y.len,fe];rfl
theorem MH.sloc1(Y:MH C tb tV tS g m v o io ir ip K n0)(q:MQ)(x y z:AObj)(l:g9):(K q++x::z::l).set (n0+1) y=K q++x::y::l:=by
 rw[fk _ _ qfh,Y.len,show n0+1 - n0=1 by omega];rfl
theorem MH.undA(Y:MH C tb tV tS g m v o io ir ip K n0)(q:MQ)(l:g9)(k:Nat):hUnder (n0+k) (K q++l)=hUnder (n0+k) l:=by rw[qx,uk aa (Y.und q)];rfl
theorem MH.ext(Y:MH C tb tV tS g m v o io ir ip K n0)(L:g9)(hL:hUnder (n0+L.length) L=true):MH C tb tV tS g m v o io ir ip (λq=>K q++L) (n0+L.length) where
 len:=λs=>by rw[c7,Y.len]
 hg:=by have:=Y.hg;omega
 hm:=by have:=Y.hm;omega
 hv:=by have:=Y.hv;omega
 ho:=by have:=Y.ho;omega
 hio:=by have:=Y.hio;omega
 hir:=by have:=Y.hir;omega
 hip:=by have:=Y.hip;omega
 lg:=λq=>Y.lg' q L
 lm:=λq=>Y.lm' q L
 lv:=λq=>Y.lv' q L
 lo:=λq=>Y.lo' q L
 lio:=λq=>Y.lio' q L
 lir:=λq=>Y.lir' q L
 lip:=λq=>Y.lip' q L
 sm:=λq no nr np st=>Y.sm' q no nr np st L
 sv:=λq x=>Y.sv' q x L
 so:=λq x=>Y.so' q x L
 sio:=λq x=>Y.sio' q x L
 sir:=λq x=>Y.sir' q x L
 sip:=λq x=>Y.sip' q x L
 und:=λq=>by rw[qx,uk aa (Y.und q),hL];rfl
end
end
theorem qtl(n:Int):i64 (pi n):=jda n
theorem xjt(a:Int):i64 (qql a).1:=by
 unfold qql;split
 .exact⟨ba,ba⟩
 .exact qtl _
theorem jez{a b:Int}(hb:i64 b):i64 (qta a b).1:=by
 unfold qta;split
 .grind
 split
 .exact⟨ba,ba⟩
 split
 .exact qtl _
 .rename_i h0 _ _;have h1:(a.tmod b).natAbs=a.natAbs % b.natAbs:=Int.natAbs_tmod a b;have h2:a.natAbs % b.natAbs<b.natAbs:=Nat.mod_lt _ aa;have:=hb.1;have:=hb.2;simp only[i64];omega
theorem xy1{op a b:Int}{v:V}(hb:i64 b)(h:qlx op a b=.ok v):oj v:=by
 have hx:∀r:Int×Int,i64 r.1->ve r=.ok v->oj v:=λr hr hv=>by
  unfold ve at hv;split at hv
  .cases hv;exact⟨hr,by simp[vI,em]⟩
  .grind
 unfold qlx at h;have hz:i64 0:=⟨ba,ba⟩
 split at h
 .grind[qwi,qtl]
 split at h
 .grind[qwd,qtl]
 split at h
 .grind[qsl,xjt,qtl]
 split at h
 .grind[qt7,xjt,qtl]
 .exact hx _ (jez hb) h
theorem xa5(b:Bool):oj (vB b):=by cases b<;>exact⟨⟨ba,ba⟩,by simp[vB,em]⟩
theorem qvg{n:Int}(h:i64 n):oj (vI n):=⟨h,by simp[vI,em]⟩
theorem xik{s:ig}{v:V}(h:qmv s=.ok v):oj v:=by
 unfold qmv at h;split at h
 .cases h
 .cases h;exact⟨⟨by simp[vS],by simp[vS]⟩,by simp only[vS];omega⟩
theorem jds{op:Int}{a b v:V}(hb:oj b)(h:ug op a b=.ok v):oj v:=by
 unfold ug at h;split at h
 .split at h
  .exact xy1 hb.1 h
  .cases h
 split at h
 .grind[xa5]
 split at h
 .grind[xa5]
 split at h
 .grind[xik]
 .grind[que,xa5]
def u5(C:Cfg):Prop:=∀p∈C.state,oj p.v
def qoo(s:MS):Prop:=(∀p∈s.vars,oj p.2)/\∀p∈s.own,oj p.2
theorem xgy:oj V.nil:=⟨⟨ba,ba⟩,by simp[V.nil]⟩
theorem jho{l:List Pr}(h:∀p∈l,oj p.v)(k:ig):oj (jw l k):=by
 induction l with
 |nil=>exact xgy
 |cons p l ih =>
  rw[jw];split
  .grind
  .grind
theorem qvz{α:Type}{l:List (ig×α)}{k:ig}{v:α}(h:kz l k=some v):(k,v)∈l:=by
 induction l with
 |nil=>cases h
 |cons p l ih =>
  rw[kz]at h;split at h
  .grind
  .grind
theorem xav{α:Type}{l:List (ig×α)}{k:ig}{v:α}{p:ig×α}(h:p∈lx l k v):p=(k,v)\/p∈l:=by
 induction l with
 |nil=>simpa[lx]using h
 |cons q l ih =>
  rw[lx]at h;split at h
  .grind
  .grind
structure EvOk(s:MS)(n:Nat)(s':MS):Prop where
 eq:s' = { s with reads:=s'.reads }
 asc:kg s'.reads
 len:s'.reads.length<=s.reads.length+n
theorem EvOk.refl{s:MS}(h:kg s.reads)(n:Nat):EvOk s n s:=⟨rfl,h,aa⟩
theorem EvOk.trans{s t u:MS}{n k:Nat}(h:EvOk s n t)(g:EvOk t k u):EvOk s (n+k) u:=by
 refine⟨?_,g.asc,by have:=h.len;have:=g.len;omega⟩;have h1:=h.eq;have h2:=g.eq;rw[h1]at h2;exact h2
theorem EvOk.mono{s t:MS}{n k:Nat}(h:EvOk s n t)(hk:n<=k):EvOk s k t:=⟨h.eq,h.asc,by have:=h.len;omega⟩
theorem EvOk.rng{s t:MS}{n:Nat}(h:EvOk s n t)(hr:qoo s):qoo t:=by rw[h.eq];exact hr
theorem EvOk.steps{s t:MS}{n:Nat}(h:EvOk s n t):t.steps=s.steps:=by rw[h.eq]
theorem EvOk.vars{s t:MS}{n:Nat}(h:EvOk s n t):t.vars=s.vars:=by rw[h.eq]
theorem EvOk.out{s t:MS}{n:Nat}(h:EvOk s n t):t.out=s.out:=by rw[h.eq]
theorem EvOk.puts{s t:MS}{n:Nat}(h:EvOk s n t):t.puts=s.puts:=by rw[h.eq]
section
variable {C:Cfg}
theorem jit(hC:u5 C){s:MS}(hM:qoo s)(ha:kg s.reads)(k:ig):EvOk s 1 (um C k s).2/\∀v,(um C k s).1=.ok v->oj v:=by
 unfold um;split
 .exact⟨.refl ha _,λv h=>by cases h⟩
 split
 .rename_i w hw;exact⟨.refl ha _,λv h=>by cases h;exact hM.2 _ (qvz hw)⟩
 split
 .exact⟨.refl ha _,λv h=>by cases h⟩
 .exact⟨⟨rfl,qz7 ha k,xal _ _⟩,λv h=>by cases h;exact jho hC k⟩
theorem jfa(hC:u5 C){s:MS}(hM:qoo s)(ha:kg s.reads)(op:Int){l:List V}(hl:∀v∈l,oj v):EvOk s 1 (vz C op l s).2/\∀v,(vz C op l s).1=.ok v->oj v:=by
 unfold vz;split
 .rename_i a;unfold unS;have hx:∀v,ve (qql a.n)=.ok v->oj v:=λv hv=>by
   unfold ve at hv;split at hv
   .cases hv;exact qvg (xjt _)
   .grind
  split
  .refine⟨.refl ha _,λv h=>?_⟩;split at h
   .grind
   .cases h
  split
  .refine⟨.refl ha _,λv h=>?_⟩;split at h
   .grind[xa5]
   .cases h
  split
  .refine⟨.refl ha _,λv h=>?_⟩;split at h
   .exact xik h
   .cases h
  split
  .refine⟨.refl ha _,λv h=>?_⟩;split at h
   .cases h;have:=(hl a ac).2;exact qvg ⟨aa,aa⟩
   .cases h
  split
  .exact⟨.refl ha _,λv h=>by cases h⟩
  .have hf:=jit hC hM ha a.s;split
   .grind
   .rename_i w m' hz;rw[hz]at hf;refine⟨hf.1,λv h=>?_⟩;simp only[qwk]at h;split at h
    .grind[xa5]
    split at h
    .cases h;exact qvg ⟨ba,ba⟩
    split at h
    .exact xik h
    split at h
    .cases h
    .grind
 .exact⟨.refl ha _,λv h=>jds (hl _ ac) h⟩
 .exact⟨.refl ha _,λv h=>by cases h⟩
mutual
theorem qqp(hC:u5 C):∀(e:Ex) (s:MS),vd e->qoo s->kg s.reads->EvOk s (nodes e) (mg C e s).2/\∀v,(mg C e s).1=.ok v->oj v
 | .mk op n t args,s,hX,hM,ha=>by
  have hX':=(qw1 _).1 hX;simp only[Ex.n,Ex.s,Ex.args]at hX';rw[mg];split
  .exact⟨.refl ha _,λv h=>by cases h;exact qvg hX'.1.1⟩
  split
  .exact⟨.refl ha _,λv h=>by cases h;exact⟨⟨by simp[vS],by simp[vS]⟩,hX'.1.2⟩⟩
  split
  .refine⟨.refl ha _,λv h=>?_⟩;simp only at h;split at h
   .rename_i w hw;cases h;exact hM.1 _ (qvz hw)
   .cases h
  .have hL:=xh3 hC args s hX'.2 hM ha;have hn:nodes (.mk op n t args)=qtk args+1:=xih _;split
   .rename_i z m' hz;rw[hz]at hL;exact⟨hL.1.mono aa,λv h=>by cases h⟩
   .rename_i l m' hz;rw[hz]at hL;have ho:=jfa hC (hL.1.rng hM) hL.1.asc op (l:=l) (hL.2 l rfl);exact⟨(hL.1.trans ho.1).mono aa,ho.2⟩
theorem xh3(hC:u5 C):∀(l:List Ex) (s:MS),(∀e∈l,vd e)->qoo s->kg s.reads->EvOk s (qtk l) (pa C l s).2/\∀r,(pa C l s).1=.ok r->∀v∈r,oj v
 | [],s,_,_,ha=>by
  rw[pa];exact⟨.refl ha _,λr h=>by cases h;simp⟩
 |e::l,s,hX,hM,ha=>by
  have hE:=qqp hC e s (hX e ac) hM ha;rw[pa,xj5];split
  .rename_i z m' hz;rw[hz]at hE;exact⟨hE.1.mono aa,λr h=>by cases h⟩
  .rename_i w m' hz;rw[hz]at hE;have hL:=xh3 hC l m' (λx hx=>hX x bu) (hE.1.rng hM) hE.1.asc;split
   .rename_i z lh hz';rw[hz']at hL;exact⟨hE.1.trans hL.1,λr h=>by cases h⟩
   .rename_i r' lh hz';rw[hz']at hL;refine⟨hE.1.trans hL.1,λr h=>?_⟩;cases h;intro v hv;rcases c0.1 hv with rfl|hv
    .grind
    .grind
end
end
@[simp] theorem jgp(l:List (ig×V))(s:ig)(i:Int):ra (qsi (l.map λp=>(p.1,tu p.2)) s (.agg [I 1,I i,S em]))=mr tu (lx l s (vI i)):=xnb tu l s (vI i)
def goX(e:Ex):Prop:=vd e/\nodes e<=4095
def goS:St->Prop
 | .mk op _ _ a b body els=>(op≠8->goX a)/\(op=3\/op=6->goX b)/\(∀x∈body.attach,goS x.1)/\∀x∈els.attach,goS x.1
termination_by s=>SizeOf.sizeOf s
decreasing_by
 all_goals
  have:=gb x.2;simp only[St.mk.sizeOf_spec];omega
theorem qye(t:St):goS t↔(t.op≠8->goX t.a)/\(t.op=3\/t.op=6->goX t.b)/\(∀x∈t.body,goS x)/\∀x∈t.els,goS x:=by
 cases t with
 |mk op name mx a b body els =>
  rw[goS];simp[St.op,St.a,St.b,St.body,St.els]
structure Inv(r p:Nat)(s:MS):Prop where
 rng:qoo s
 ar:kg s.reads
 ap:kg s.puts
 st:s.steps<=16384
 rd:((s.reads.length+r:Nat):Int)<=8192 * s.steps
 pt:((s.puts.length+p:Nat):Int)<=s.steps
 ot:s.out.length<=16
theorem Inv.mono{r p r' p':Nat}{s:MS}(h:Inv r p s)(h1:r'<=r)(h2:p'<=p):Inv r' p' s:=⟨h.rng,h.ar,h.ap,h.st,by have:=h.rd;omega,by have:=h.pt;omega,h.ot⟩
theorem Inv.ev{r p n:Nat}{s t:MS}(h:Inv (r+n) p s)(g:EvOk s n t):Inv r p t:=by
 have h1:=h.rd;have h2:=g.len;refine⟨g.rng h.rng,g.asc,by rw[g.puts];exact h.ap,by rw[g.steps];exact h.st,by rw[g.steps];omega,by rw[g.steps,g.puts];exact h.pt,by rw[g.out];exact h.ot⟩
theorem Inv.tick{s t:MS}{u:Unit}(h:Inv 0 0 s)(g:wv s=(.ok u,t)):Inv 8192 1 t:=by
 unfold wv at g;split at g
 .cases g
 .cases g;exact⟨h.rng,h.ar,h.ap,qhv,by have:=h.rd;simp only;omega,by have:=h.pt;simp only;omega,h.ot⟩
theorem jk5{s:MS}(h:qoo s){v:V}(hv:oj v)(k:ig):qoo { s with vars:=lx s.vars k v }:=⟨λp hp=>by
 rcases xav hp with rfl|hp
 .exact hv
 .exact h.1 p hp,h.2⟩
theorem Inv.vars{r p:Nat}{s:MS}(h:Inv r p s){v:V}(hv:oj v)(k:ig):Inv r p { s with vars:=lx s.vars k v }:=⟨jk5 h.rng hv k,h.ar,h.ap,h.st,h.rd,h.pt,h.ot⟩
section
variable {C:Cfg}
theorem Inv.store{r:Nat}{s t:MS}{u:Unit}{k:ig}{v:V}(h:Inv r 1 s)(hv:oj v)(g:tv C k v s=(.ok u,t)):Inv r 0 t:=by
 unfold tv at g;split at g
 .cases g
 split at g
 .cases g
 .cases g;refine⟨⟨h.rng.1,λp hp=>?_⟩,h.ar,qz7 h.ap k,h.st,h.rd,?_,h.ot⟩
  .rcases xav hp with rfl|hp
   .exact hv
   .exact h.rng.2 p hp
  .have:=xal s.puts k;have:=h.pt;simp only;omega
theorem Inv.emit{r p:Nat}{s t:MS}{u:Unit}{v:V}(h:Inv r p s)(g:yx v s=(.ok u,t)):Inv r p t:=by
 unfold yx at g;split at g
 .cases g
 .rename_i hn;cases g;exact⟨h.rng,h.ar,h.ap,h.st,h.rd,h.pt,by have:=h.ot;simp;omega⟩
theorem Inv.eval(hC:u5 C){r p:Nat}{s:MS}{e:Ex}(h:Inv (r+4095) p s)(he:goX e):Inv r p (mg C e s).2/\∀v,(mg C e s).1=.ok v->oj v:=by
 have h1:=qqp hC e s he.1 h.rng h.ar;exact⟨h.ev (h1.1.mono he.2),h1.2⟩
theorem xo9{body:MS->Except Stop Unit×MS}{name:ig}{b:Int}(hb:∀s u t,Inv 8192 1 s->body s=(.ok u,t)->Inv 0 0 t):∀(f:Nat) (i:Int) (s:MS) (u:Unit) (t:MS),i64 i->Inv 0 0 s->q8 body name b f i s=(.ok u,t)->Inv 0 0 t
 | 0,i,s,u,t,_,h,g=>by rw[q8]at g;cases g;exact h
 |f+1,i,s,u,t,hi,h,g=>by
  rw[q8]at g;split at g
  .split at g
   .cases g
   .rename_i m' hm;have h1:=(h.tick hm).vars (qvg hi) name;split at g
    .cases g
    .rename_i lh og;exact xo9 hb f _ _ _ _ (qtl _) (hb _ _ _ h1 og) g
  .grind
mutual
theorem xca(hC:u5 C):∀(t:St) (s:MS) (u:Unit) (s':MS),goS t->Inv 8192 1 s->r7 C t s=(.ok u,s')->Inv 0 0 s'
 | .mk op name mx a b body els,s,u,s',hG,h,g=>by
  have hG':=(qye _).1 hG;simp only[St.op,St.a,St.b,St.body,St.els]at hG';obtain⟨hA,hB,vx,qpn⟩:=hG';rw[r7]at g;split at g
  .have h1:=h.eval hC (r:=4097) (hA aa);split at g
   .cases g
   .rename_i v m' hm;rw[hm]at h1;cases g;exact(h1.1.vars (h1.2 _ rfl) name).mono aa aa
  split at g
  .have h1:=h.eval hC (r:=4097) (hA aa);split at g
   .cases g
   .rename_i v m' hm;rw[hm]at h1;have h2:=h1.1.eval hC (r:=2) (hB aa);split at g
    .cases g
    .rename_i w lh og;rw[og]at h2;split at g
     .exact(h2.1.store (h2.2 _ rfl) g).mono aa aa
     .cases g
  split at g
  .have h1:=h.eval hC (r:=4097) (hA aa);split at g
   .cases g
   .rename_i v m' hm;rw[hm]at h1;split at g
    .exact(h1.1.store xgy g).mono aa aa
    .cases g
  split at g
  .have h1:=h.eval hC (r:=4097) (hA aa);split at g
   .cases g
   .rename_i v m' hm;rw[hm]at h1;split at g
    .split at g
     .exact qvo hC body _ _ _ vx (h1.1.mono aa aa) g
     .exact qvo hC els _ _ _ qpn (h1.1.mono aa aa) g
    .cases g
  split at g
  .have h1:=h.eval hC (r:=4097) (hA aa);split at g
   .cases g
   .rename_i v m' hm;rw[hm]at h1;have h2:=h1.1.eval hC (r:=2) (hB aa);split at g
    .cases g
    .rename_i w lh og;rw[og]at h2;split at g
     .split at g
      .cases g
      .exact xo9 (λs u t hs hg=>qvo hC body s u t vx (hs.mono aa aa) hg) _ _ _ _ _ (h1.2 _ rfl).1 (h2.1.mono aa aa) g
     .cases g
  split at g
  .have h1:=h.eval hC (r:=4097) (hA aa);split at g
   .cases g
   .rename_i v m' hm;rw[hm]at h1;split at g
    .exact(h1.1.emit g).mono aa aa
    .cases g
  split at g
  .cases g
  .cases g;exact h.mono aa aa
theorem qvo(hC:u5 C):∀(l:List St) (s:MS) (u:Unit) (s':MS),(∀x∈l,goS x)->Inv 0 0 s->mc C l s=(.ok u,s')->Inv 0 0 s'
 | [],s,u,s',_,h,g=>by rw[mc]at g;cases g;exact h
 |t::l,s,u,s',hG,h,g=>by
  rw[mc]at g;split at g
  .cases g
  .rename_i m' hm;split at g
   .cases g
   .rename_i lh og;exact qvo hC l _ _ _ (λx hx=>hG x bu) (xca hC t _ _ _ (hG t ac) (h.tick hm) og) g
end
end
end Go.Cw
