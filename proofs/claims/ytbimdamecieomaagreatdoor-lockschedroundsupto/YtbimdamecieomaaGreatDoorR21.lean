/- Part 21 of a proof. -/
import Derived.Test.YtbimdamecieomaaGreatDoorR14
import Derived.Test.YtbimdamecieomaaGreatDoorR20
set_option linter.all false
namespace Go.Cw
open Go Go.Abs
@[simp] theorem jo7:qqq (.map none)=.val (.map none):=rfl
theorem xuj{α:Type}{f:α→AV}{l:List (g9×α)}{a b:AV}(h:(a,b)∈mb f l):∃s x,a=S s∧b=f x:=by
 rw[mb,qj,qlt,dk]at h;obtain⟨p,_,hp⟩:=h;simp only[Function.comp,qlp]at hp;exact⟨p.1,p.2,hp.1.symm,hp.2.symm⟩
theorem xde{α:Type}{f:α→AV}(hf:∀(n:Nat) (a:α),(f a).under n=true)(n:Nat)(l:List (g9×α)):(AObj.map (mb f l)).under n=true:=by
 simp only[AObj.under,dw,c0];rintro⟨a,b⟩ hp;obtain⟨s,x,rfl,rfl⟩:=xuj hp;exact⟨rfl,hf n x⟩
theorem qw6{t:St}{d:Nat}(h:tv t d)(h0:t.op≠8):mg t.a 1=0:=by
 have h1:=((xc t d).1 h).1;refine xtd h1 ?_;unfold sg at h1;unfold mu at h1⊢;grind
theorem qyb{t:St}{d:Nat}(h:tv t d)(h0:t.op=3∨t.op=6):mg t.b 1=0:=by
 have h1:=((xc t d).1 h).1;refine xn0 h1 ?_;unfold mu;grind
def m8(l:List St)(f:TS→Int×TS)(s:TS):Int×TS:=if (f s).1≠0 then f s else(0,⟨qrp l (f s).2.visible,(f s).2.loops,(f s).2.all⟩)
def qsx(t:St)(B E:TS→Int×TS)(s:TS):Int×TS :=
 if (ki s.visible t).2.2≠0 then((ki s.visible t).2.2,s)
 else if t.op=1 then(0,s.decl t.name (ki s.visible t).1)
 else if t.op=2 then
  match jg s.visible t.name with
  |none=>(11,s)
  |some ty=>(if jg s.loops t.name=some true then 7 else if ty≠(ki s.visible t).1 then 10 else 0,s)
 else if t.op=3 then(if (ki s.visible t).1≠2∨(ki s.visible t).2.1=3 then 10 else 0,s)
 else if t.op=4 then(if (ki s.visible t).1≠2 then 10 else 0,s)
 else if t.op=7 then(if (ki s.visible t).1=3 then 10 else 0,s)
 else if t.op=5 then
  if (ki s.visible t).1≠3 then(10,s)
  else if (m8 t.body B s).1≠0 then m8 t.body B s else m8 t.els E (m8 t.body B s).2
 else if t.op=6 then
  if (ki s.visible t).1≠1∨(ki s.visible t).2.1≠1 then(10,s)
  else
   let x:=m8 t.body B ⟨js s.visible t.name 1,js s.loops t.name true,js s.all t.name 1⟩
   (x.1,⟨qp3 x.2.visible t.name,x.2.loops,x.2.all⟩)
 else(0,s)
mutual
def um:St→TS→Int×TS
 | .mk op name mx a b body els,s=>qsx (.mk op name mx a b body els) (fun x=>km body x) (fun x=>km els x) s
def km:List St→TS→Int×TS
 | [],s=>(0,s)
 |t::l,s=>if (um t s).1≠0 then um t s else km l (um t s).2
end
theorem qyd(t:St)(s:TS):um t s=qsx t (km t.body) (km t.els) s:=by cases t;rw[um];rfl
abbrev qpq(l:List St)(s:TS):Int×TS:=m8 l (km l) s
def qrr:List (g9×Bool)→List g9→Bool
 |_,[]=>false
 |met,x::l=>(jg met x).getD false||qrr (js met x true) l
def y5(l:List Param)(s:TS):TS:=l.foldl (fun s x=>s.decl x.name x.ty) s
def zh(p:Proc):Int :=
 if s7 p≠0 then s7 p
 else if p.params.any (fun x=>decide (x.ty=3))then 10
 else if qrr [] (yp p)then 8
 else(qpq p.body (y5 p.params ⟨[],[],[]⟩)).1
def qws(x:Param)(v:V):Bool:=(decide (v.k=1)&&decide (v.s=em)&&decide (x.ty=1))||(decide (v.k=2)&&decide (v.n=0)&&ml v.s&&decide (x.ty=2))
def qm8:List Param→List V→Bool
 |x::l,v::r=>qws x v&&qm8 l r
 |_,_=>true
def zg(p:Proc)(args:List V):Int :=
 if zh p≠0∨args.length≠p.params.length then 1 else if qm8 p.params args then 0 else 10
mutual
def qq5:Ex→List Ex
 | .mk op n s args=>.mk op n s args::wc args
def wc:List Ex→List Ex
 | []=>[]
 |e::l=>qq5 e++wc l
end
theorem xkq(e:Ex):qq5 e=e::wc e.args:=by cases e;rw[qq5];rfl
def qzw:List Ex→Int→Int×Int×Bool
 | [],_=>(0,0,false)
 |e::l,k=>if qsv e.op then(e.op,k,true)else qzw l (k+1)
def qrk(p:Proc):Int×Int×Bool:=if s7 p≠0 then(0,0,false)else qzw (wc (rg p)) 0
def qn1(p:Proc):Int:=if zh p≠0 then zh p else if (qrk p).2.2 then 12 else 0
structure Cnt where
 st:Int
 ge:Int
 pu:Int
 em:Int
def Cnt.c(x:Cnt):List AV:=[I x.st,I x.ge,I x.pu,I x.em]
def mn(a b:Int):Int:=if b<a then b else a
def mx(a b:Int):Int:=if a<b then b else a
theorem qqf(a b:Int):(if b<a then b else a)=mn a b:=rfl
theorem xe7(a b:Int):(if a<b then b else a)=mx a b:=rfl
theorem qrm:IntKind.i64.wrap 3=3:=bc
theorem qrz:IntKind.i64.wrap 4=4:=bc
def Cnt.plus(x y:Cnt):Cnt:=⟨mn (jt (x.st+y.st)) 16385,mn (jt (x.ge+y.ge)) 16385,mn (jt (x.pu+y.pu)) 16385,mn (jt (x.em+y.em)) 16385⟩
def Cnt.times(x:Cnt)(n:Int):Cnt:=⟨mn (jt (x.st * n)) 16385,mn (jt (x.ge * n)) 16385,mn (jt (x.pu * n)) 16385,mn (jt (x.em * n)) 16385⟩
def Cnt.larger(x y:Cnt):Cnt:=⟨mx x.st y.st,mx x.ge y.ge,mx x.pu y.pu,mx x.em y.em⟩
mutual
def xt:Ex→Int
 | .mk op _ _ args=>mn (w8 args (if op=22∨op=23∨op=24 then 1 else 0)) 16385
def w8:List Ex→Int→Int
 | [],n=>n
 |e::l,n=>w8 l (jt (n+xt e))
end
theorem xz1(e:Ex):xt e=mn (w8 e.args (if e.op=22∨e.op=23∨e.op=24 then 1 else 0)) 16385:=by cases e;rw[xt];rfl
def qo9(t:St):Cnt :=
 let g:=if t.op=8 then 0 else xt t.a
 if t.op=3 then⟨1,mn (jt (g+xt t.b)) 16385,1,0⟩
 else if t.op=4 then⟨1,g,1,0⟩
 else if t.op=7 then⟨1,g,0,1⟩
 else if t.op=6 then⟨jt (1+t.max),mn (jt (g+xt t.b)) 16385,0,0⟩
 else⟨1,g,0,0⟩
mutual
def qx4:St→Cnt
 | .mk op name m a b body els =>
  if op=5 then(qo9 (.mk op name m a b body els)).plus ((qtc body ⟨0,0,0,0⟩).larger (qtc els ⟨0,0,0,0⟩))
  else if op=6 then(qo9 (.mk op name m a b body els)).plus ((qtc body ⟨0,0,0,0⟩).times m)
  else qo9 (.mk op name m a b body els)
def qtc:List St→Cnt→Cnt
 | [],c=>c
 |t::l,c=>qtc l (c.plus (qx4 t))
end
abbrev ru(l:List St):Cnt:=qtc l ⟨0,0,0,0⟩
theorem xvd(t:St):qx4 t=if t.op=5 then(qo9 t).plus ((ru t.body).larger (ru t.els))else if t.op=6 then(qo9 t).plus ((ru t.body).times t.max)else qo9 t:=by
 cases t;rw[qx4];rfl
def t6(p:Proc):Int :=
 if qn1 p≠0 then qn1 p
 else if 16384<(ru p.body).st then 13
 else if 64<(ru p.body).ge∨64<(ru p.body).pu∨16<(ru p.body).em then 2
 else 0
structure Stop where
 status:Int
 code:Int
 miss:g9
def ab(code:Int):Stop:=⟨2,code,em⟩
def rst(key:g9):Stop:=⟨3,0,key⟩
structure MS where
 vars:List (g9×V)
 own:List (g9×V)
 out:List V
 reads:List g9
 puts:List g9
 steps:Nat
def MS.nil:MS:=⟨[],[],[],[],[],0⟩
def vI(n:Int):V:=⟨1,n,em⟩
def vS(s:g9):V:=⟨2,0,s⟩
def vB(b:Bool):V:=⟨3,if b then 1 else 0,em⟩
abbrev EV:=Except Stop V
def wq(s:g9):EV:=if 64<(s.size:Int)then .error (ab 1006)else .ok (vS s)
def sj(r:Int×Int):EV:=if r.2=0 then .ok (vI r.1)else if r.2=4 then .error (ab 1002)else .error (ab 1001)
def yc(op a b:Int):EV:=if op=4 then sj (qry a b)else if op=5 then sj (t0 a b)else if op=6 then sj (qnw a b)else if op=7 then sj (qow a b)else sj (qoj a b)
def y8(op c:Int):Bool:=if op=10 then decide (c=0)else if op=11 then !decide (c=0)else if op=12 then decide (c<0)else if op=13 then decide (c≤0)else if op=14 then decide (0<c)else decide (0≤c)
def qtr(op:Int)(a b:V):EV:=if a.k=b.k∧(a.k=1∨a.k=2∨(a.k=3∧op≤11))then .ok (vB (y8 op (qp5 a b)))else .error (ab 1009)
def s8(op:Int)(a b:V):EV :=
 if op=4∨op=5∨op=6∨op=7∨op=8 then(if a.k=1∧b.k=1 then yc op a.n b.n else .error (ab 1009))
 else if op=16 then(if a.k=3∧b.k=3 then .ok (vB (decide (a.n=1)&&decide (b.n=1)))else .error (ab 1009))
 else if op=17 then(if a.k=3∧b.k=3 then .ok (vB (decide (a.n=1)||decide (b.n=1)))else .error (ab 1009))
 else if op=19 then(if a.k=2∧b.k=2 then wq (a.s++b.s)else .error (ab 1009))
 else qtr op a b
def jv(k:g9):List g9→Nat
 | []=>0
 |x::l=>if ju x k then jv k l+1 else 0
def sq(l:List g9)(k:g9):List g9:=if l[jv k l]?=some k then l else l.take (jv k l)++k::l.drop (jv k l)
structure Cfg where
 state:List Pr
 all:Bool
 rd:List g9
 wr:List g9
 fmt:Int→g9
section
variable (C:Cfg)
def r5(key:g9)(m:MS):EV×MS :=
 if rk key=false then(.error (ab 1004),m)
 else match jg m.own key with
  |some v=>(.ok v,m)
  |none=>if C.all=false∧jk C.rd key=false then(.error (rst key),m)
   else(.ok (lh C.state key),{ m with reads:=sq m.reads key })
def qz(key:g9)(v:V)(m:MS):Except Stop Unit×MS :=
 if rk key=false then(.error (ab 1004),m)
 else if C.all=false∧jk C.wr key=false then(.error (rst key),m)
 else(.ok (),{ m with puts:=sq m.puts key,own:=js m.own key v })
def uj(v:V)(m:MS):Except Stop Unit×MS:=if m.out.length=16 then(.error (ab 1007),m)else(.ok (),{ m with out:=m.out++[v] })
def qq(m:MS):Except Stop Unit×MS:=(if 16384<m.steps+1 then .error (ab 1008)else .ok (),{ m with steps:=m.steps+1 })
def wd(op:Int)(v:V):EV :=
 if op=24 then .ok (vB (!decide (v.k=0)))
 else if op=22∧v.k=0 then .ok (vI 0)
 else if op=23∧v.k=0 then wq em
 else if (op=22∧v.k≠1)∨(op=23∧v.k≠2)then .error (ab 1003)
 else .ok v
def rr(op:Int)(a:V)(m:MS):EV×MS :=
 if op=9 then(if a.k=1 then sj (wj a.n)else .error (ab 1009),m)
 else if op=18 then(if a.k=3 then .ok (vB (decide (a.n=0)))else .error (ab 1009),m)
 else if op=20 then(if a.k=1 then wq (C.fmt a.n)else .error (ab 1009),m)
 else if op=21 then(if a.k=2 then .ok (vI a.s.size)else .error (ab 1009),m)
 else if a.k≠2 then(.error (ab 1009),m)
 else match r5 C a.s m with
  |(.error z,m')=>(.error z,m')
  |(.ok v,m')=>(wd op v,m')
def ul(op:Int)(l:List V)(m:MS):EV×MS :=
 match l with
 | [a]=>rr C op a m
 | [a,b]=>(s8 op a b,m)
 |_=>(.error (ab 1009),m)
mutual
def kx:Ex→MS→EV×MS
 | .mk op n s args,m =>
  if op=1 then(.ok (vI n),m)
  else if op=2 then(.ok (vS s),m)
  else if op=3 then((match jg m.vars s with|some v=>.ok v|none=>.error (ab 1009)),m)
  else match m6 args m with
   |(.error z,m')=>(.error z,m')
   |(.ok l,m')=>ul C op l m'
def m6:List Ex→MS→Except Stop (List V)×MS
 | [],m=>(.ok [],m)
 |e::l,m=>match kx e m with
  |(.error z,m')=>(.error z,m')
  |(.ok v,m')=>match m6 l m' with
   |(.error z,kh)=>(.error z,kh)
   |(.ok r,kh)=>(.ok (v::r),kh)
end
theorem xri(e:Ex)(m:MS):kx C e m=if e.op=1 then(.ok (vI e.n),m)
  else if e.op=2 then(.ok (vS e.s),m)
  else if e.op=3 then((match jg m.vars e.s with|some v=>.ok v|none=>.error (ab 1009)),m)
  else match m6 C e.args m with
   |(.error z,m')=>(.error z,m')
   |(.ok l,m')=>ul C e.op l m':=by cases e;rw[kx];rfl
def o8(body:MS→Except Stop Unit×MS)(name:g9)(b:Int):Nat→Int→MS→Except Stop Unit×MS
 | 0,_,m=>(.ok (),m)
 |f+1,i,m =>
  if i<b then
   match qq m with
   |(.error z,m')=>(.error z,m')
   |(.ok _,m')=>match body { m' with vars:=js m'.vars name (vI i) }with
    |(.error z,kh)=>(.error z,kh)
    |(.ok _,kh)=>o8 body name b f (jt (i+1)) kh
  else(.ok (),m)
def qtd(a b:Int)(mx:Int):Prop:=a<b∧IntKind.u64.wrap mx<IntKind.u64.wrap (IntKind.u64.wrap b - IntKind.u64.wrap a)
instance (a b mx:Int):Decidable (qtd a b mx):=inferInstanceAs (Decidable (_∧_))
mutual
def oj:St→MS→Except Stop Unit×MS
 | .mk op name mx a b body els,m =>
  if op=1∨op=2 then
   match kx C a m with
   |(.error z,m')=>(.error z,m')
   |(.ok v,m')=>(.ok (),{ m' with vars:=js m'.vars name v })
  else if op=3 then
   match kx C a m with
   |(.error z,m')=>(.error z,m')
   |(.ok k,m')=>match kx C b m' with
    |(.error z,kh)=>(.error z,kh)
    |(.ok v,kh)=>if k.k=2∧(v.k=1∨v.k=2)then qz C k.s v kh else(.error (ab 1009),kh)
  else if op=4 then
   match kx C a m with
   |(.error z,m')=>(.error z,m')
   |(.ok k,m')=>if k.k=2 then qz C k.s V.nil m' else(.error (ab 1009),m')
  else if op=5 then
   match kx C a m with
   |(.error z,m')=>(.error z,m')
   |(.ok c,m')=>if c.k=3 then(if c.n=1 then kn body m' else kn els m')else(.error (ab 1009),m')
  else if op=6 then
   match kx C a m with
   |(.error z,m')=>(.error z,m')
   |(.ok u,m')=>match kx C b m' with
    |(.error z,kh)=>(.error z,kh)
    |(.ok v,kh) =>
     if u.k=1∧v.k=1 then
      (if qtd u.n v.n mx then(.error (ab 1005),kh)else o8 (fun x=>kn body x) name v.n 16386 u.n kh)
     else(.error (ab 1009),kh)
  else if op=7 then
   match kx C a m with
   |(.error z,m')=>(.error z,m')
   |(.ok v,m')=>if v.k=1∨v.k=2 then uj v m' else(.error (ab 1009),m')
  else if op=8 then(.error (ab mx),m)
  else(.ok (),m)
def kn:List St→MS→Except Stop Unit×MS
 | [],m=>(.ok (),m)
 |t::l,m=>match qq m with
  |(.error z,m')=>(.error z,m')
  |(.ok _,m')=>match oj t m' with
   |(.error z,kh)=>(.error z,kh)
   |(.ok _,kh)=>kn l kh
end
end
def qnf:Except Stop Unit×MS→Eff
 |(.error z,m)=>⟨z.status,z.code,[],m.reads,m.puts,[],z.miss,m.steps⟩
 |(.ok _,m)=>⟨1,0,m.out,m.reads,m.puts,m.puts.map fun k=>⟨k,(jg m.own k).getD V.nil⟩,em,m.steps⟩
def u4:Eff:=⟨2,1009,[],[],[],[],em,0⟩
def qeg:List Param→List V→List (g9×V)→List (g9×V)
 |x::l,v::r,m=>qeg l r (js m x.name v)
 |_,_,m=>m
def mz(fmt:Int→g9)(p:Proc)(args:List V)(st:List Pr)(ft:Foot):Eff :=
 if t6 p≠0∨zg p args≠0∨nn st=false∨my ft.all ft.reads ft.writes=false then u4
 else qnf (kn ⟨st,ft.all,ft.reads,ft.writes,fmt⟩ p.body ⟨qeg p.params args [],[],[],[],[],0⟩)
def scan(stop:Ex→Bool):List Ex→Nat→Nat×Option Ex
 | [],k=>(k,none)
 |e::l,k=>if stop e then(k,some e)else scan stop l (k+1)
theorem xtj(stop:Ex→Bool):∀(a b:List Ex) (k:Nat),scan stop (a++b) k=match scan stop a k with
  |(k',some e)=>(k',some e)
  |(k',none)=>scan stop b k'
 | [],b,k=>rfl
 |e::a,b,k=>by
  simp only[qlg,scan];split
  ·rfl
  ·exact xtj stop a b (k+1)
theorem jfs(stop:Ex→Bool)(e:Ex)(k:Nat):scan stop (qq5 e) k=if stop e then(k,some e)else scan stop (wc e.args) (k+1):=by
 rw[xkq,scan]
theorem xv2(stop:Ex→Bool)(e:Ex)(l:List Ex)(k:Nat):scan stop (wc (e::l)) k=match scan stop (qq5 e) k with
  |(k',some x)=>(k',some x)
  |(k',none)=>scan stop (wc l) k':=by
 rw[wc,xtj]
theorem xsk(l:List Ex):∀k:Nat,qzw l k=match scan (fun e=>qsv e.op) l k with
  |(k',some e)=>(e.op,(k':Int),true)
  |(_,none)=>(0,0,false):=by
 induction l with
 |nil=>intro k;rfl
 |cons e l ih =>
  intro k;simp only[qzw,scan];by_cases h:qsv e.op=true
  ·rw[if_pos h,if_pos h]
  ·rw[if_neg h,if_neg h];have:=ih (k+1);rw[←this];rfl
theorem jlk(a:Int):IntKind.i64.wrap (IntKind.i64.wrap a+1)=IntKind.i64.wrap (a+1):=by
 simp only[IntKind.wrap,IntKind.bits,IntKind.signed];simp;omega
section
def i64(n:Int):Prop:=-9223372036854775808≤n∧n≤9223372036854775807
theorem jiz(n:Int):i64 (IntKind.i64.wrap n):=by
 simp only[i64,IntKind.wrap,IntKind.bits,IntKind.signed];simp;omega
def kp(v:V):Prop:=i64 v.n∧v.s.size≤4294967296
def su:Ex→Prop
 | .mk _ n s args=>(i64 n∧s.size≤4294967296)∧∀x∈args.attach,su x.1
termination_by e=>SizeOf.sizeOf e
decreasing_by
 have:=fj x.2;simp only[Ex.mk.sizeOf_spec];omega
theorem qvc(e:Ex):su e↔(i64 e.n∧e.s.size≤4294967296)∧∀x∈e.args,su x:=by
 cases e with
 |mk op n s args =>
  rw[su];simp[Ex.n,Ex.s,Ex.args]
def nodes(e:Ex):Nat:=(qq5 e).length
def qok(l:List Ex):Nat:=(wc l).length
theorem qzo(e:Ex):nodes e=qok e.args+1:=by rw[nodes,xkq];rfl
theorem qz2(e:Ex)(l:List Ex):qok (e::l)=nodes e+qok l:=by rw[qok,wc,cz];rfl
mutual
theorem xjk:∀(e:Ex) (d k:Nat),mg e d=0→d+k=13→nodes e+1≤2 ^ k
 | .mk op n s args,d,k,h,hk=>by
  have qt:=qez h;rw[qva]at h;split at h
  ·rename_i h0;have hd:d≤12:=by
    unfold vk at h0;split at h0
    ·omega
    split at h0
    ·omega
    split at h0
    ·omega
    split at h0
    ·omega
    ·omega
   have h2:args.length≤2:=by
    have:me (Ex.mk op n s args).op≤2:=by unfold me;repeat' split<;>omega
    simp only[Ex.args]at qt;omega
   have h1:=xps args (d+1) (k - 1) h aa;rw[qzo];simp only[Ex.args];have hp:2 ^ k=2 * 2 ^ (k - 1):=by rw[←Nat.pow_succ'];congr 1;omega
   have kq:1≤2 ^ (k - 1):=Nat.one_le_two_pow;have h3:args.length=0∨args.length=1∨args.length=2:=aa;rcases h3 with h3|h3|h3<;>rw[h3]at h1<;>omega
  ·contradiction
theorem xps:∀(l:List Ex) (d k:Nat),vq l d=0→d+k=13→qok l+l.length≤l.length * 2 ^ k
 | [],d,k,_,_=>by simp[qok,wc]
 |e::l,d,k,h,hk=>by
  rw[vq]at h;split at h
  ·rename_i h0;have h1:=xjk e d k h0 hk;have h2:=xps l d k h hk;rw[qz2,d5,Nat.succ_mul];omega
  ·contradiction
end
section
variable {P:Program} {E:Ent} {Q:AExit→Env→Prop} {e:Env}
theorem xb3{α:Type}{b:Code}(I:α→Prop)(S:α→Env)(μ:α→Nat)(a0:α)(h0:I a0)(hw:Wk E e (S a0))
  (step:∀a,I a→wpC P E b (AExit.then (fun e'=>∃a',I a'∧μ a'<μ a∧Wk E e' (S a')) Q) (S a)):AWp P E (.loop b) Q e :=
 xmf (ι:=α) (I:=I) (S:=S) (μ:=μ) a0 h0 hw fun a hI=>na _ _ _ (step a hI)
end
abbrev jp(l:List g9):Prop:=l.Pairwise fun a b=>ju a b=true
theorem qt4(k:g9):∀l,jv k l≤l.length
 | []=>ct _
 |x::l=>by
  rw[jv];split
  ·have:=qt4 k l;simp;omega
  ·simp
theorem qxt{k:g9}:∀{l:List g9},jp l→∀(n:Nat) (h:n<l.length),(n<jv k l↔ju l[n] k=true)
 | [],_,n,h=>by simp at h
 |x::l,ha,n,h=>by
  obtain⟨h1,h2⟩:=ef.1 ha;rw[jv];by_cases hx:ju x k=true
  ·rw[if_pos hx];cases n with
   |zero=>simp[hx]
   |succ n =>
    have:=qxt (k:=k) h2 n bh;simp only[List.getElem_cons_succ];rw[←this];omega
  ·rw[if_neg hx];cases n with
   |zero=>simp[hx]
   |succ n =>
    simp only[List.getElem_cons_succ];refine⟨fun h=>by omega,fun hn=>?_⟩;exact(hx (qdz (h1 _ (c9 _)) hn)).elim
theorem xb1{l:List g9}(ha:jp l)(k:g9):jp (sq l k):=by
 unfold sq;split
 ·exact ha
 ·rename_i ii;have ig:=qt4 k l;refine List.pairwise_append.2 ⟨ha.sublist (List.take_sublist _ _),ef.2 ⟨fun b hb=>?_,ha.sublist (List.drop_sublist _ _)⟩,fun a hA b hb=>?_⟩
  ·obtain⟨i,hi,rfl⟩:=List.getElem_of_mem hb;rw[List.getElem_drop];have ke:jv k l+i<l.length:=by
    have:i<l.length - jv k l:=qf1;omega
   have hnot:ju l[jv k l+i] k=false:=by
    cases h:ju l[jv k l+i] k with
    |false=>rfl
    |true=>have:=(qxt ha _ ke).2 h;omega
   cases hki:ju k l[jv k l+i]with
   |true=>rfl
   |false =>
    have:=xb6 k l[jv k l+i];rw[hki,hnot]at this;simp at this
    -- equal: only the first can be
    cases i with
    |zero =>
     simp only[d6]at this;exact(ii (by rw[da aa,←this])).elim
    |succ i =>
     have hp:=(qmp.1 ha) (jv k l) (jv k l+(i+1)) aa ke aa;rw[←this]at hp;have:=(qxt ha (jv k l) aa).2 hp;omega
  ·obtain⟨i,hi,rfl⟩:=List.getElem_of_mem hA;have hi1:i<jv k l:=by simp at hi;omega
   have ib:ju (l.take (jv k l))[i] k=true:=by
    rw[qmq];exact(qxt ha i aa).1 hi1
   rcases cw.1 hb with rfl|hb
   ·exact ib
   ·obtain⟨j,hj,rfl⟩:=List.getElem_of_mem hb;rw[List.getElem_drop,qmq];exact(qmp.1 ha) i (jv k l+j) aa (by simp at hj;omega) aa
theorem qzx(l:List g9)(k:g9):(sq l k).length≤l.length+1:=by
 unfold sq;split
 ·omega
 ·have:=qt4 k l;simp;omega
abbrev t7(v:V):AV:=.agg v.c
@[simp] theorem jqs(l:List (g9×V))(s:g9)(x:V):qj (qua (l.map fun p=>(p.1,t7 p.2)) s (.agg [I x.k,I x.n,S x.s]))=mb t7 (js l s x):=xup t7 l s x
structure MQ where
 vars:List (g9×V)
 own:List (g9×V)
 out:List V
 reads:List g9
 puts:List g9
 no:Nat
 nr:Nat
 np:Nat
 steps:Int
def MS.q(s:MS):MQ:=⟨s.vars,s.own,s.out,s.reads,s.puts,s.out.length,s.reads.length,s.puts.length,s.steps⟩
@[simp] theorem jon(s:MS):s.q.vars=s.vars:=rfl
@[simp] theorem jqt(s:MS):s.q.own=s.own:=rfl
@[simp] theorem jq2(s:MS):s.q.out=s.out:=rfl
@[simp] theorem jrw(s:MS):s.q.reads=s.reads:=rfl
@[simp] theorem jp6(s:MS):s.q.puts=s.puts:=rfl
@[simp] theorem jps(s:MS):s.q.no=s.out.length:=rfl
@[simp] theorem jr2(s:MS):s.q.nr=s.reads.length:=rfl
@[simp] theorem jo2(s:MS):s.q.np=s.puts.length:=rfl
@[simp] theorem jrd(s:MS):s.q.steps=s.steps:=rfl
def mC(C:Cfg)(v o io ir ip:Nat)(q:MQ):List AV :=
 [.slice (C.state.map Pr.c),Bo C.all,.slice (C.rd.map im),.slice (C.wr.map im),.mapr v,.mapr o,I 0,I 0,.own io q.no,.own ir q.nr,.own ip q.np,.nils,S em,I q.steps]
structure MH(C:Cfg)(tb:AObj)(tV tS:Nat)(g m v o io ir ip:Nat)(K:MQ→gz)(n0:Nat):Prop where
 len:∀q,(K q).length=n0
 hg:g<n0
 hm:m<n0
 hv:v<n0
 ho:o<n0
 hio:io<n0
 hir:ir<n0
 hip:ip<n0
 lg:∀q,(K q)[g]?=some tb
 lm:∀q,(K q)[m]?=some (.cells (mC C v o io ir ip q))
 lv:∀q,(K q)[v]?=some (.map (mb t7 q.vars))
 lo:∀q,(K q)[o]?=some (.map (mb t7 q.own))
 lio:∀q,(K q)[io]?=some (.arr tV 3 (q.out.map V.c))
 lir:∀q,(K q)[ir]?=some (.uarr tS 1 (q.reads.map im))
 lip:∀q,(K q)[ip]?=some (.uarr tS 1 (q.puts.map im))
 sm:∀q no nr np (st:Int),(K q).set m (.cells (mC C v o io ir ip ⟨q.vars,q.own,q.out,q.reads,q.puts,no,nr,np,st⟩))=K ⟨q.vars,q.own,q.out,q.reads,q.puts,no,nr,np,st⟩
 sv:∀q x,(K q).set v (.map (mb t7 x))=K ⟨x,q.own,q.out,q.reads,q.puts,q.no,q.nr,q.np,q.steps⟩
 so:∀q x,(K q).set o (.map (mb t7 x))=K ⟨q.vars,x,q.out,q.reads,q.puts,q.no,q.nr,q.np,q.steps⟩
 sio:∀q (x:List V),(K q).set io (.arr tV 3 (x.map V.c))=K ⟨q.vars,q.own,x,q.reads,q.puts,q.no,q.nr,q.np,q.steps⟩
 sir:∀q (x:List g9),(K q).set ir (.uarr tS 1 (x.map im))=K ⟨q.vars,q.own,q.out,x,q.puts,q.no,q.nr,q.np,q.steps⟩
 sip:∀q (x:List g9),(K q).set ip (.uarr tS 1 (x.map im))=K ⟨q.vars,q.own,q.out,q.reads,x,q.no,q.nr,q.np,q.steps⟩
 und:∀q,hUnder n0 (K q)=true
section
variable {C:Cfg} {tb:AObj} {tV tS g m v o io ir ip:Nat} {K:MQ→gz} {n0:Nat}
theorem MH.gl(Y:MH C tb tV tS g m v o io ir ip K n0){i:Nat}(hi:i<n0)(q:MQ)(l:gz):(K q++l)[i]?=(K q)[i]?:=cu (by rw[Y.len];exact hi)
theorem MH.lg'(Y:MH C tb tV tS g m v o io ir ip K n0)(q:MQ)(l:gz):(K q++l)[g]?=some tb:=by rw[Y.gl Y.hg,Y.lg]
theorem MH.lm'(Y:MH C tb tV tS g m v o io ir ip K n0)(q:MQ)(l:gz):(K q++l)[m]?=some (.cells (mC C v o io ir ip q)):=by rw[Y.gl Y.hm,Y.lm]
theorem MH.lv'(Y:MH C tb tV tS g m v o io ir ip K n0)(q:MQ)(l:gz):(K q++l)[v]?=some (.map (mb t7 q.vars)):=by rw[Y.gl Y.hv,Y.lv]
theorem MH.lo'(Y:MH C tb tV tS g m v o io ir ip K n0)(q:MQ)(l:gz):(K q++l)[o]?=some (.map (mb t7 q.own)):=by rw[Y.gl Y.ho,Y.lo]
theorem MH.lio'(Y:MH C tb tV tS g m v o io ir ip K n0)(q:MQ)(l:gz):(K q++l)[io]?=some (.arr tV 3 (q.out.map V.c)):=by rw[Y.gl Y.hio,Y.lio]
theorem MH.lir'(Y:MH C tb tV tS g m v o io ir ip K n0)(q:MQ)(l:gz):(K q++l)[ir]?=some (.uarr tS 1 (q.reads.map im)):=by rw[Y.gl Y.hir,Y.lir]
theorem MH.lip'(Y:MH C tb tV tS g m v o io ir ip K n0)(q:MQ)(l:gz):(K q++l)[ip]?=some (.uarr tS 1 (q.puts.map im)):=by rw[Y.gl Y.hip,Y.lip]
theorem MH.sl(Y:MH C tb tV tS g m v o io ir ip K n0){i:Nat}(hi:i<n0)(q:MQ)(y:AObj)(l:gz):(K q++l).set i y=(K q).set i y++l:=e9 _ _ (by rw[Y.len];exact hi)
theorem MH.sm'(Y:MH C tb tV tS g m v o io ir ip K n0)(q:MQ)(no nr np:Nat)(st:Int)(l:gz):(K q++l).set m (.cells (mC C v o io ir ip ⟨q.vars,q.own,q.out,q.reads,q.puts,no,nr,np,st⟩))=K ⟨q.vars,q.own,q.out,q.reads,q.puts,no,nr,np,st⟩++l:=by rw[Y.sl Y.hm,Y.sm]
theorem MH.sv'(Y:MH C tb tV tS g m v o io ir ip K n0)(q:MQ)(x:List (g9×V))(l:gz):(K q++l).set v (.map (mb t7 x))=K ⟨x,q.own,q.out,q.reads,q.puts,q.no,q.nr,q.np,q.steps⟩++l:=by rw[Y.sl Y.hv,Y.sv]
theorem MH.so'(Y:MH C tb tV tS g m v o io ir ip K n0)(q:MQ)(x:List (g9×V))(l:gz):(K q++l).set o (.map (mb t7 x))=K ⟨q.vars,x,q.out,q.reads,q.puts,q.no,q.nr,q.np,q.steps⟩++l:=by rw[Y.sl Y.ho,Y.so]
theorem MH.sio'(Y:MH C tb tV tS g m v o io ir ip K n0)(q:MQ)(x:List V)(l:gz):(K q++l).set io (.arr tV 3 (x.map V.c))=K ⟨q.vars,q.own,x,q.reads,q.puts,q.no,q.nr,q.np,q.steps⟩++l:=by rw[Y.sl Y.hio,Y.sio]
theorem MH.sir'(Y:MH C tb tV tS g m v o io ir ip K n0)(q:MQ)(x:List g9)(l:gz):(K q++l).set ir (.uarr tS 1 (x.map im))=K ⟨q.vars,q.own,q.out,x,q.puts,q.no,q.nr,q.np,q.steps⟩++l:=by rw[Y.sl Y.hir,Y.sir]
theorem MH.sip'(Y:MH C tb tV tS g m v o io ir ip K n0)(q:MQ)(x:List g9)(l:gz):(K q++l).set ip (.uarr tS 1 (x.map im))=K ⟨q.vars,q.own,q.out,q.reads,x,q.no,q.nr,q.np,q.steps⟩++l:=by rw[Y.sl Y.hip,Y.sip]
theorem MH.smx(Y:MH C tb tV tS g m v o io ir ip K n0)(q:MQ)(no nr np:Nat)(st:Int):(K q).set m (.cells [.slice (C.state.map Pr.c),Bo C.all,.slice (C.rd.map im),.slice (C.wr.map im),.mapr v,.mapr o,I 0,I 0,.own io no,.own ir nr,.own ip np,.nils,S em,I st])=K ⟨q.vars,q.own,q.out,q.reads,q.puts,no,nr,np,st⟩:=Y.sm q no nr np st
theorem MH.smx'(Y:MH C tb tV tS g m v o io ir ip K n0)(q:MQ)(no nr np:Nat)(st:Int)(l:gz):(K q++l).set m (.cells [.slice (C.state.map Pr.c),Bo C.all,.slice (C.rd.map im),.slice (C.wr.map im),.mapr v,.mapr o,I 0,I 0,.own io no,.own ir nr,.own ip np,.nils,S em,I st])=K ⟨q.vars,q.own,q.out,q.reads,q.puts,no,nr,np,st⟩++l:=Y.sm' q no nr np st l
theorem MH.sioA(Y:MH C tb tV tS g m v o io ir ip K n0)(q:MQ)(l0:List V)(x:V)(l:gz):(K q++l).set io (.arr tV 3 (l0.map V.c++[[I x.k,I x.n,S x.s]]))=K ⟨q.vars,q.own,l0++[x],q.reads,q.puts,q.no,q.nr,q.np,q.steps⟩++l:=by
 rw[←Y.sio' q (l0++[x]) l,dz];rfl
theorem MH.und'(Y:MH C tb tV tS g m v o io ir ip K n0)(q:MQ):hUnder (K q).length (K q)=true:=by rw[Y.len];exact Y.und q
theorem MH.loc(Y:MH C tb tV tS g m v o io ir ip K n0)(q:MQ)(x:AObj)(l:gz):(K q++x::l)[n0]?=some x:=by rw[cy qgb,Y.len,ff];rfl
theorem MH.loc1(Y:MH C tb tV tS g m v o io ir ip K n0)(q:MQ)(x y:AObj)(l:gz):(K q++x::y::l)[n0+1]?=some y:=by rw[cy qgb,Y.len,show n0+1 - n0=1 by omega];rfl
theorem MH.loc2(Y:MH C tb tV tS g m v o io ir ip K n0)(q:MQ)(x y z:AObj)(l:gz):(K q++x::y::z::l)[n0+2]?=some z:=by rw[cy qgb,Y.len,show n0+2 - n0=2 by omega];rfl
theorem MH.loc3(Y:MH C tb tV tS g m v o io ir ip K n0)(q:MQ)(x y z u:AObj)(l:gz):(K q++x::y::z::u::l)[n0+3]?=some u:=by rw[cy qgb,Y.len,show n0+3 - n0=3 by omega];rfl
theorem MH.sloc2(Y:MH C tb tV tS g m v o io ir ip K n0)(q:MQ)(x y z u:AObj)(l:gz):(K q++x::z::u::l).set (n0+2) y=K q++x::z::y::l:=by
 rw[fq _ _ qgb,Y.len,show n0+2 - n0=2 by omega];rfl
theorem MH.sloc(Y:MH C tb tV tS g m v o io ir ip K n0)(q:MQ)(x y:AObj)(l:gz):(K q++x::l).set n0 y=K q++y::l:=by
 rw[fq _ _ qgb,Y.len,ff];rfl
theorem MH.sloc1(Y:MH C tb tV tS g m v o io ir ip K n0)(q:MQ)(x y z:AObj)(l:gz):(K q++x::z::l).set (n0+1) y=K q++x::y::l:=by
 rw[fq _ _ qgb,Y.len,show n0+1 - n0=1 by omega];rfl
theorem MH.undA(Y:MH C tb tV tS g m v o io ir ip K n0)(q:MQ)(l:gz)(k:Nat):hUnder (n0+k) (K q++l)=hUnder (n0+k) l:=by rw[tn,ww aa (Y.und q)];rfl
theorem MH.ext(Y:MH C tb tV tS g m v o io ir ip K n0)(L:gz)(hL:hUnder (n0+L.length) L=true):MH C tb tV tS g m v o io ir ip (fun q=>K q++L) (n0+L.length) where
 len:=fun s=>by rw[cz,Y.len]
 hg:=by have:=Y.hg;omega
 hm:=by have:=Y.hm;omega
 hv:=by have:=Y.hv;omega
 ho:=by have:=Y.ho;omega
 hio:=by have:=Y.hio;omega
 hir:=by have:=Y.hir;omega
 hip:=by have:=Y.hip;omega
 lg:=fun q=>Y.lg' q L
 lm:=fun q=>Y.lm' q L
 lv:=fun q=>Y.lv' q L
 lo:=fun q=>Y.lo' q L
 lio:=fun q=>Y.lio' q L
 lir:=fun q=>Y.lir' q L
 lip:=fun q=>Y.lip' q L
 sm:=fun q no nr np st=>Y.sm' q no nr np st L
 sv:=fun q x=>Y.sv' q x L
 so:=fun q x=>Y.so' q x L
 sio:=fun q x=>Y.sio' q x L
 sir:=fun q x=>Y.sir' q x L
 sip:=fun q x=>Y.sip' q x L
 und:=fun q=>by rw[tn,ww aa (Y.und q),hL];rfl
end
end
theorem qth(n:Int):i64 (jt n):=jiz n
theorem xbm(a:Int):i64 (wj a).1:=by
 unfold wj;split
 ·exact⟨bc,bc⟩
 ·exact qth _
theorem xxn{a b:Int}(hb:i64 b):i64 (qoj a b).1:=by
 unfold qoj;split
 ·exact⟨bc,bc⟩
 split
 ·exact⟨bc,bc⟩
 split
 ·exact qth _
 ·rename_i h0 _ _;have h1:(a.tmod b).natAbs=a.natAbs % b.natAbs:=Int.natAbs_tmod a b;have h2:a.natAbs % b.natAbs<b.natAbs:=Nat.mod_lt _ aa;have:=hb.1;have:=hb.2;simp only[i64];omega
theorem xqh{op a b:Int}{v:V}(hb:i64 b)(h:yc op a b=.ok v):kp v:=by
 have hx:∀r:Int×Int,i64 r.1→sj r=.ok v→kp v:=fun r hr hv=>by
  unfold sj at hv;split at hv
  ·cases hv;exact⟨hr,by simp[vI,em]⟩
  ·split at hv<;>cases hv
 unfold yc at h;have hz:i64 0:=⟨bc,bc⟩
 split at h
 ·refine hx _ ?_ h;unfold qry;split
  ·exact hz
  ·exact qth _
 split at h
 ·refine hx _ ?_ h;unfold t0;split
  ·exact hz
  ·exact qth _
 split at h
 ·refine hx _ ?_ h;unfold qnw;split
  ·exact hz
  split
  ·exact xbm _
  split
  ·exact xbm _
  split
  ·exact hz
  ·exact qth _
 split at h
 ·refine hx _ ?_ h;unfold qow;split
  ·exact hz
  split
  ·exact xbm _
  split
  ·exact qth _
  ·exact qth _
 ·exact hx _ (xxn hb) h
theorem quh(b:Bool):kp (vB b):=by cases b<;>exact⟨⟨bc,bc⟩,by simp[vB,em]⟩
theorem qqb{n:Int}(h:i64 n):kp (vI n):=⟨h,by simp[vI,em]⟩
theorem xkl{s:g9}{v:V}(h:wq s=.ok v):kp v:=by
 unfold wq at h;split at h
 ·cases h
 ·cases h;exact⟨⟨qgz,qgz⟩,by simp only[vS];omega⟩
theorem jcl{op:Int}{a b v:V}(hb:kp b)(h:s8 op a b=.ok v):kp v:=by
 unfold s8 at h;split at h
 ·split at h
  ·exact xqh hb.1 h
  ·cases h
 split at h
 ·split at h
  ·cases h;exact quh _
  ·cases h
 split at h
 ·split at h
  ·cases h;exact quh _
  ·cases h
 split at h
 ·split at h
  ·exact xkl h
  ·cases h
 ·unfold qtr at h;split at h
  ·cases h;exact quh _
  ·cases h
def ur(C:Cfg):Prop:=∀p∈C.state,kp p.v
def qpc(s:MS):Prop:=(∀p∈s.vars,kp p.2)∧∀p∈s.own,kp p.2
theorem xcp:kp V.nil:=⟨⟨bc,bc⟩,by simp[V.nil]⟩
theorem xff{l:List Pr}(h:∀p∈l,kp p.v)(k:g9):kp (lh l k):=by
 induction l with
 |nil=>exact xcp
 |cons p l ih =>
  rw[lh];split
  ·exact h p ae
  ·exact ih fun q hq=>h q cn
theorem qv7{α:Type}{l:List (g9×α)}{k:g9}{v:α}(h:jg l k=some v):(k,v)∈l:=by
 induction l with
 |nil=>cases h
 |cons p l ih =>
  rw[jg]at h;split at h
  ·rename_i hp;cases h;subst hp;simp
  ·simp[ih h]
theorem qxl{α:Type}{l:List (g9×α)}{k:g9}{v:α}{p:g9×α}(h:p∈js l k v):p=(k,v)∨p∈l:=by
 induction l with
 |nil=>simpa[js]using h
 |cons q l ih =>
  rw[js]at h;split at h
  ·rcases cw.1 h with h|h
   ·exact .inl h
   ·exact .inr co
  ·rcases cw.1 h with h|h
   ·exact .inr co
   ·rcases ih h with h|h
    ·exact .inl h
    ·exact .inr co
structure EvOk(s:MS)(n:Nat)(s':MS):Prop where
 eq:s' = { s with reads:=s'.reads }
 asc:jp s'.reads
 len:s'.reads.length≤s.reads.length+n
theorem EvOk.refl{s:MS}(h:jp s.reads)(n:Nat):EvOk s n s:=⟨rfl,h,aa⟩
theorem EvOk.trans{s t u:MS}{n k:Nat}(h:EvOk s n t)(g:EvOk t k u):EvOk s (n+k) u:=by
 refine⟨?_,g.asc,by have:=h.len;have:=g.len;omega⟩;have h1:=h.eq;have h2:=g.eq;rw[h1]at h2;exact h2
theorem EvOk.mono{s t:MS}{n k:Nat}(h:EvOk s n t)(hk:n≤k):EvOk s k t:=⟨h.eq,h.asc,by have:=h.len;omega⟩
theorem EvOk.rng{s t:MS}{n:Nat}(h:EvOk s n t)(hr:qpc s):qpc t:=by rw[h.eq];exact hr
theorem EvOk.steps{s t:MS}{n:Nat}(h:EvOk s n t):t.steps=s.steps:=by rw[h.eq]
theorem EvOk.vars{s t:MS}{n:Nat}(h:EvOk s n t):t.vars=s.vars:=by rw[h.eq]
theorem EvOk.out{s t:MS}{n:Nat}(h:EvOk s n t):t.out=s.out:=by rw[h.eq]
theorem EvOk.puts{s t:MS}{n:Nat}(h:EvOk s n t):t.puts=s.puts:=by rw[h.eq]
section
variable {C:Cfg}
theorem jfl(hC:ur C){s:MS}(hM:qpc s)(ha:jp s.reads)(k:g9):EvOk s 1 (r5 C k s).2∧∀v,(r5 C k s).1=.ok v→kp v:=by
 unfold r5;split
 ·exact⟨.refl ha _,fun v h=>by cases h⟩
 split
 ·rename_i w hw;exact⟨.refl ha _,fun v h=>by cases h;exact hM.2 _ (qv7 hw)⟩
 split
 ·exact⟨.refl ha _,fun v h=>by cases h⟩
 ·exact⟨⟨rfl,xb1 ha k,qzx _ _⟩,fun v h=>by cases h;exact xff hC k⟩
theorem jnd(hC:ur C){s:MS}(hM:qpc s)(ha:jp s.reads)(op:Int){l:List V}(hl:∀v∈l,kp v):EvOk s 1 (ul C op l s).2∧∀v,(ul C op l s).1=.ok v→kp v:=by
 unfold ul;split
 ·rename_i a;unfold rr;have hx:∀v,sj (wj a.n)=.ok v→kp v:=fun v hv=>by
   unfold sj at hv;split at hv
   ·cases hv;exact qqb (xbm _)
   ·split at hv<;>cases hv
  split
  ·refine⟨.refl ha _,fun v h=>?_⟩;split at h
   ·exact hx v h
   ·cases h
  split
  ·refine⟨.refl ha _,fun v h=>?_⟩;split at h
   ·cases h;exact quh _
   ·cases h
  split
  ·refine⟨.refl ha _,fun v h=>?_⟩;split at h
   ·exact xkl h
   ·cases h
  split
  ·refine⟨.refl ha _,fun v h=>?_⟩;split at h
   ·cases h;have:=(hl a ae).2;exact qqb ⟨aa,aa⟩
   ·cases h
  split
  ·exact⟨.refl ha _,fun v h=>by cases h⟩
  ·have hf:=jfl hC hM ha a.s;split
   ·rename_i z m' hz;rw[hz]at hf;exact⟨hf.1,fun v h=>by cases h⟩
   ·rename_i w m' hz;rw[hz]at hf;refine⟨hf.1,fun v h=>?_⟩;simp only[wd]at h;split at h
    ·cases h;exact quh _
    split at h
    ·cases h;exact qqb ⟨bc,bc⟩
    split at h
    ·exact xkl h
    split at h
    ·cases h
    ·cases h;exact hf.2 _ rfl
 ·exact⟨.refl ha _,fun v h=>jcl (hl _ ae) h⟩
 ·exact⟨.refl ha _,fun v h=>by cases h⟩
mutual
theorem qpl(hC:ur C):∀(e:Ex) (s:MS),su e→qpc s→jp s.reads→EvOk s (nodes e) (kx C e s).2∧∀v,(kx C e s).1=.ok v→kp v
 | .mk op n t args,s,hX,hM,ha=>by
  have hX':=(qvc _).1 hX;simp only[Ex.n,Ex.s,Ex.args]at hX';rw[kx];split
  ·exact⟨.refl ha _,fun v h=>by cases h;exact qqb hX'.1.1⟩
  split
  ·exact⟨.refl ha _,fun v h=>by cases h;exact⟨⟨qgz,qgz⟩,hX'.1.2⟩⟩
  split
  ·refine⟨.refl ha _,fun v h=>?_⟩;simp only at h;split at h
   ·rename_i w hw;cases h;exact hM.1 _ (qv7 hw)
   ·cases h
  ·have hL:=xdj hC args s hX'.2 hM ha;have hn:nodes (.mk op n t args)=qok args+1:=qzo _;split
   ·rename_i z m' hz;rw[hz]at hL;exact⟨hL.1.mono aa,fun v h=>by cases h⟩
   ·rename_i l m' hz;rw[hz]at hL;have ho:=jnd hC (hL.1.rng hM) hL.1.asc op (l:=l) (hL.2 l rfl);exact⟨(hL.1.trans ho.1).mono aa,ho.2⟩
theorem xdj(hC:ur C):∀(l:List Ex) (s:MS),(∀e∈l,su e)→qpc s→jp s.reads→EvOk s (qok l) (m6 C l s).2∧∀r,(m6 C l s).1=.ok r→∀v∈r,kp v
 | [],s,_,_,ha=>by
  rw[m6];exact⟨.refl ha _,fun r h=>by cases h;simp⟩
 |e::l,s,hX,hM,ha=>by
  have hE:=qpl hC e s (hX e ae) hM ha;rw[m6,qz2];split
  ·rename_i z m' hz;rw[hz]at hE;exact⟨hE.1.mono aa,fun r h=>by cases h⟩
  ·rename_i w m' hz;rw[hz]at hE;have hL:=xdj hC l m' (fun x hx=>hX x bt) (hE.1.rng hM) hE.1.asc;split
   ·rename_i z kh hz';rw[hz']at hL;exact⟨hE.1.trans hL.1,fun r h=>by cases h⟩
   ·rename_i r' kh hz';rw[hz']at hL;refine⟨hE.1.trans hL.1,fun r h=>?_⟩;cases h;intro v hv;rcases cw.1 hv with rfl|hv
    ·exact hE.2 _ rfl
    ·exact hL.2 _ rfl v hv
end
end
end Go.Cw
