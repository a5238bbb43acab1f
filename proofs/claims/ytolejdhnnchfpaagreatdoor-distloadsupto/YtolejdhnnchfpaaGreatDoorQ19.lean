/- Part 19 of a proof. -/
import Derived.Lib.Bytealg
import Derived.Test.YtolejdhnnchfpaaGreatDoorQ12
set_option linter.all false
namespace Go.Cw
open Go Go.Abs
abbrev ig:=ByteArray
abbrev I(n:Int):AV:=.val (.int .i64 n)
abbrev S(s:ig):AV:=.val (.string s)
abbrev Bo(b:Bool):AV:=.val (.bool b)
abbrev U8(n:Int):AV:=.val (.int .u8 n)
abbrev P0(i:Nat):AV:=.ptr i 0
def ja(s:ig):List AV:=[S s]
def ka(n:Int):List AV:=[I n]
structure V where
 k:Int
 n:Int
 s:ig
def V.c(v:V):List AV:=[I v.k,I v.n,S v.s]
def V.nil:V:=⟨0,0,⟨#[]⟩⟩
structure Pr where
 key:ig
 v:V
def Pr.c(p:Pr):List AV:=[S p.key,I p.v.k,I p.v.n,S p.v.s]
inductive Ex where
 |mk (op n:Int) (s:ig) (args:List Ex)
mutual
def Ex.c:Ex->List AV
 | .mk op n s args=>[I op,I n,S s,.slice (Ex.cl args)]
def Ex.cl:List Ex->List (List AV)
 | []=>[]
 |e::l=>e.c::Ex.cl l
end
theorem Ex.cl_map:∀l,Ex.cl l=l.map Ex.c
 | []=>rfl
 |e::l=>by simp[Ex.cl,Ex.cl_map l]
def Ex.op:Ex->Int| .mk o _ _ _=>o
def Ex.n:Ex->Int| .mk _ n _ _=>n
def Ex.s:Ex->ig| .mk _ _ s _=>s
def Ex.args:Ex->List Ex| .mk _ _ _ a=>a
abbrev Ex.x(e:Ex):List AV:=[I e.op,I e.n,S e.s,.slice (e.args.map Ex.c)]
theorem Ex.c_eq(e:Ex):e.c=e.x:=by cases e;simp[Ex.c,Ex.cl_map,Ex.op,Ex.n,Ex.s,Ex.args]
inductive St where
 |mk (op:Int) (name:ig) (max:Int) (a b:Ex) (body els:List St)
mutual
def St.c:St->List AV
 | .mk op name max a b body els=>[I op,S name,I max]++a.c++b.c++[.slice (St.cl body),.slice (St.cl els)]
def St.cl:List St->List (List AV)
 | []=>[]
 |e::l=>e.c::St.cl l
end
theorem St.cl_map:∀l,St.cl l=l.map St.c
 | []=>rfl
 |e::l=>by simp[St.cl,St.cl_map l]
def St.op:St->Int| .mk o _ _ _ _ _ _=>o
def St.name:St->ig| .mk _ n _ _ _ _ _=>n
def St.max:St->Int| .mk _ _ m _ _ _ _=>m
def St.a:St->Ex| .mk _ _ _ a _ _ _=>a
def St.b:St->Ex| .mk _ _ _ _ b _ _=>b
def St.body:St->List St| .mk _ _ _ _ _ l _=>l
def St.els:St->List St| .mk _ _ _ _ _ _ l=>l
abbrev St.x(s:St):List AV:=[I s.op,S s.name,I s.max,I s.a.op,I s.a.n,S s.a.s,.slice (s.a.args.map Ex.c),I s.b.op,I s.b.n,S s.b.s,.slice (s.b.args.map Ex.c),.slice (s.body.map St.c),.slice (s.els.map St.c)]
theorem St.c_eq(s:St):s.c=s.x:=by
 cases s;simp[St.c,St.cl_map,St.op,St.name,St.max,St.a,St.b,St.body,St.els,Ex.c_eq]
structure Param where
 name:ig
 ty:Int
def Param.c(p:Param):List AV:=[S p.name,I p.ty]
structure Proc where
 name:ig
 params:List Param
 body:List St
def Proc.c(p:Proc):List AV:=[S p.name,.slice (p.params.map Param.c),.slice (p.body.map St.c)]
structure Foot where
 all:Bool
 reads:List ig
 writes:List ig
def Foot.c(f:Foot):List AV:=[Bo f.all,.slice (f.reads.map ja),.slice (f.writes.map ja)]
structure Eff where
 status:Int
 code:Int
 out:List V
 reads:List ig
 puts:List ig
 writes:List Pr
 miss:ig
 steps:Int
def Eff.c(e:Eff):List AV:=[I e.status,I e.code,.slice (e.out.map V.c),.slice (e.reads.map ja),.slice (e.puts.map ja),.slice (e.writes.map Pr.c),S e.miss,I e.steps]
theorem qed{n:Int}(h0:-9223372036854775808<=n)(h1:n<9223372036854775808):IntKind.i64.wrap n=n:=by
 simp[IntKind.wrap,IntKind.bits,IntKind.signed];omega
@[simp] theorem jor:IntKind.i64.wrap 0=0:=ba
@[simp] theorem jny:IntKind.i64.wrap 1=1:=ba
@[simp] theorem jnd:IntKind.i64.wrap 2=2:=ba
@[simp] theorem jmz:IntKind.i64.wrap (-1) = -1:=ba
theorem qq9{n L:Nat}(h:n<=L)(hL:L<=68719476736):IntKind.i64.wrap (n:Int)=n:=qed aa aa
theorem jv{α:Type}{l:List α}{n:Nat}(h:n<l.length):l.drop n=l[n]::l.drop (n+1):=qi5 h
@[simp] theorem jol{α:Type}(f:α->List AV)(l:List α)(n:Nat)(h:n<l.length):(l.map f).getD n []=f l[n]:=af
attribute [go_sem] V.nil ja ka V.c Pr.c Param.c Proc.c Foot.c Eff.c zi AV.bd
abbrev em:ig:=⟨#[]⟩
def bl(s:ig):List UInt8:=s.data.toList
def qq(s:ig)(n:Nat):UInt8:=(bl s).getD n 0
@[simp] theorem jm8(s:ig)(n:Nat):xbc s (n:Int)=qq s n:=rfl
theorem qnt{s:ig}{n:Nat}(h:n<s.size):(bl s).drop n=qq s n::(bl s).drop (n+1):=by
 have h':n<(bl s).length:=h;rw[qi5 h'];rw[qq,qkg,cu h',gq]
theorem qt1{s:ig}{n:Nat}(h:¬n<s.size):(bl s).drop n=[]:=by
 refine cq ?_;have h':¬n<(bl s).length:=h;omega
def nz{α:Type}(p:α->Bool):List α->Bool
 | []=>true
 |x::l=>p x&&nz p l
theorem xcs{α:Type}{p:α->Bool}:∀{l:List α},nz p l=true↔∀x,x∈l->p x=true
 | []=>by simp[nz]
 |x::l=>by simp[nz,xcs (l:=l)]
theorem xra(s:ig):s=em\/1<=(s.size:Int):=by
 rcases s with⟨⟨l⟩⟩;cases l with
 |nil=>exact .inl rfl
 |cons x l=>refine .inr ?_;simp[ByteArray.size];omega
def okB(b:UInt8):Bool:=!(decide ((b.toNat:Int)<32)||decide ((126:Int)<b.toNat))
def pp(s:ig):Bool:=nz okB (bl s)&&decide ((s.size:Int)<=64)
def qsu(b:UInt8):Bool :=
 (decide ((97:Int)<=b.toNat)&&decide ((b.toNat:Int)<=122))||(decide ((48:Int)<=b.toNat)&&decide ((b.toNat:Int)<=57))||decide ((b.toNat:Int)=47)||decide ((b.toNat:Int)=46)||decide ((b.toNat:Int)=95)||decide ((b.toNat:Int)=45)
def sw(s:ig):Bool:=!decide (s=em)&&decide ((s.size:Int)<=24)&&nz qsu (bl s)
def xn(k n:Int)(s:ig):Bool:=if k=0 then decide (n=0)&&decide (s=em)else if k=1 then decide (s=em)else if k=2 then decide (n=0)&&pp s else false
def qug(k n:Int)(s:ig):Bool:=if k=3 then(decide (n=0)||decide (n=1))&&decide (s=em)else !decide (k=0)&&xn k n s
def after:Option ig->ig->Bool
 |none,_=>true
 |some p,k=>js p k
def qkl:Option ig->List ig->Bool
 |_,[]=>true
 |wj,k::l=>sw k&&after wj k&&qkl (some k) l
def s6{α:Type}(l:List α)(n:Nat):Option α:=if n=0 then none else l[n-1]?
def qa(all:Bool)(r w:List ig):Bool:=if all then decide (r.length=0)&&decide (w.length=0)else(qkl none r&&decide ((r.length:Int)<=64))&&(qkl none w&&decide ((w.length:Int)<=64))
theorem xqh:∀a:List UInt8,Op.bytesLess a a=false
 | []=>rfl
 |x::a=>by simp[Op.bytesLess,xqh a]
theorem xlj:∀{a b c:List UInt8},Op.bytesLess a b=true->Op.bytesLess b c=true->Op.bytesLess a c=true
 |_,_,[],_,h=>by rename_i b _;cases b<;>simp[Op.bytesLess]at h
 |_,[],_,h,_=>by rename_i a _ _;cases a<;>simp[Op.bytesLess]at h
 | [],_::_,_::_,_,_=>by simp[Op.bytesLess]
 |x::a,y::b,z::c,h,k=>by
  simp only[Op.bytesLess,gu,cw,decide_eq_true_eq,beq_iff_eq]at h k|-;rcases h with h|⟨rfl,h⟩
  .grind
  .rcases k with k|⟨rfl,k⟩
   .grind
   .exact .inr ⟨rfl,xlj h k⟩
theorem xp9:∀a b:List UInt8,Op.bytesLess a b = !(Op.bytesLess b a||a == b)
 | [],[]=>by simp[Op.bytesLess]
 | [],_::_=>by simp[Op.bytesLess]
 |_::_,[]=>by simp[Op.bytesLess]
 |x::a,y::b=>by
  have ih:=xp9 a b;simp only[Op.bytesLess];by_cases h:x=y
  .grind
  .grind
theorem qc4(a:ig):js a a=false:=xqh _
theorem qdc{a b c:ig}(h:js a b=true)(k:js b c=true):js a c=true:=xlj h k
theorem qwz(a b:ig):js a b = !(js b a||decide (a=b)):=by grind[xp9,toList_inj,js]
theorem xax{a b:ig}(h:js a b=true):js b a=false:=by grind[qc4,qdc]
theorem qr2{a b:ig}(h:js a b=true):¬a=b:=by grind[qc4]
theorem jaq(a b:ig):(js b a||decide (b=a)) = !js a b:=by
 rw[qwz a b,Bool.not_not];congr 1;exact decide_eq_decide.2 ⟨Eq.symm,Eq.symm⟩
def ph{α:Type}(p:α->Bool):Nat->List α->Int
 |_,[]=>-1
 |n,x::l=>if p x then n else ph p (n+1) l
def nv{α:Type}(p:α->Bool)(l:List α):Int:=ph p 0 l
def si{α:Type}(p:α->Bool):List α->Bool
 | []=>false
 |x::l=>p x||si p l
theorem xn0{α:Type}(p:α->Bool):∀(l:List α) (n:Nat),decide (0<=ph p n l)=si p l
 | [],n=>by simp[ph,si]
 |x::l,n=>by
  simp only[ph,si];by_cases h:p x=true
  .simp[h]
  .simp_all[qi0,qje,xn0]
theorem xhu{α:Type}(p:α->Bool)(l:List α):decide (0<=nv p l)=si p l:=xn0 p l 0
def qsy:Option ig->List Pr->Bool
 |_,[]=>true
 |wj,p::l=>sw p.key&&xn p.v.k p.v.n p.v.s&&after wj p.key&&qsy (some p.key) l
def jl(l:List Pr):Bool:=qsy none l&&!si (λp=>decide (p.v.k=0)) l
def jw:List Pr->ig->V
 | [],_=>V.nil
 |p::l,k=>if p.key=k then p.v else jw l k
def qoy:Option ig->List Pr->Bool
 |_,[]=>true
 |wj,p::l=>sw p.key&&after wj p.key&&qoy (some p.key) l
def nf(l:List Pr)(k:ig):Bool:=si (λp=>decide (p.key=k)) l
def qsx(l:List Pr):Bool:=nz (λp=>xn p.v.k p.v.n p.v.s) l
def r9(l:List Pr):Bool:=qsx l&&qoy none l
def xa8(l:List Pr):Bool:=!si (λp=>decide (p.v.k=0)) l&&r9 l
theorem xhd:∀(l:List Pr) (wj:Option ig),qsy wj l=(qsx l&&qoy wj l)
 | [],_=>rfl
 |p::l,wj=>by
  simp only[qsy,qsx,nz,qoy];rw[xhd l];simp only[qsx];generalize sw p.key=a;generalize xn p.v.k p.v.n p.v.s=b;generalize after wj p.key=c;generalize nz _ l=d;generalize qoy _ l=e;cases a<;>cases b<;>cases c<;>cases d<;>rfl
theorem xn2(l:List Pr):xa8 l=jl l:=by simp[xa8,jl,r9,xhd,Bool.and_comm]
def qkw(k:ig):List Pr->Nat
 | []=>0
 |p::l=>if js p.key k then qkw k l+1 else 0
def qlo(l:List Pr)(p:Pr):List Pr:=l.take (qkw p.key l)++p::l.drop (qkw p.key l)
def qnk(w:List Pr):List Pr->List Pr
 | []=>[]
 |p::l=>if nf w p.key then qnk w l else p::qnk w l
def qm6:List Pr->List Pr->List Pr
 |out,[]=>out
 |out,p::l=>if p.v.k=0 then qm6 out l else qm6 (qlo out p) l
def rx(l w:List Pr):List Pr:=qm6 (qnk w l) w
def mm{α:Type}(f:α->α->Bool):List α->List α->Bool
 | [],[]=>true
 |x::l,y::l'=>f x y&&mm f l l'
 |_,_=>false
def wn(a b:V):Bool:=decide (a.k=b.k)&&(decide (a.n=b.n)&&decide (a.s=b.s))
def yd(a b:Pr):Bool:=decide (a.key=b.key)&&wn a.v b.v
def zu(a b:ig):Bool:=decide (a=b)
def qr1(a b:Eff):Bool :=
 decide (a.status=b.status)&&decide (a.code=b.code)&&mm wn a.out b.out&&mm zu a.reads b.reads&&mm zu a.puts b.puts&&mm yd a.writes b.writes&&decide (a.miss=b.miss)&&decide (a.steps=b.steps)
theorem qyr{α:Type}{f:α->α->Bool}:∀{l l':List α},l.length≠l'.length->mm f l l'=false
 | [],[],h=>(h rfl).elim
 | [],_::_,_=>rfl
 |_::_,[],_=>rfl
 |x::l,y::l',h=>by simp[mm,qyr (l:=l) (l':=l') af]
theorem xji(k:ig):∀l,qkw k l<=l.length
 | []=>cn _
 |p::l=>by
  simp only[qkw];split
  .simp[xji]
  .simp
theorem jgj(l:List Pr)(p:Pr):(qlo l p).length=l.length+1:=by grind[qlo,xji]
@[simp] theorem jo7:ByteArray.size em=0:=rfl
def l8(l:List ig)(k:ig):Bool:=si (λx=>decide (x=k)) l
theorem jj{n L:Nat}(h:n<=L)(hL:L<=68719476736):IntKind.i64.wrap ((n:Int)+1)=(n:Int)+1:=qed aa aa
section
variable {P:Program} {E:Ent} {Q:AExit->Env->Prop} {e:Env}
theorem td{α:Type}{b:Code}(L:Nat)(inv:Nat->α->Prop)(S:Nat->α->Env)(a0:α)(h0:inv 0 a0)(hw:Wk E e (S 0 a0))
  (step:∀n a,n<=L->inv n a->wpC P E b (AExit.then (λe'=>n<L/\∃a',inv (n+1) a'/\Wk E e' (S (n+1) a')) Q) (S n a)):AWp P E (.loop b) Q e :=
 xhg (ι:=Nat×α) (I:=λx=>x.1<=L/\inv x.1 x.2) (S:=λx=>S x.1 x.2) (μ:=λx=>L - x.1) (0,a0) ⟨dq _,h0⟩ hw λx ⟨hn,hI⟩ =>
  (jo _ _ _ (step x.1 x.2 hn hI)).mono λy e' hx=>by
   cases y with
   |normal =>
    obtain⟨h1,a',h2,h3⟩:=hx;exact⟨(x.1+1,a'),⟨h1,h2⟩,qhv,h3⟩
   |_=>exact hx
theorem jz{b:Code}(L:Nat)(inv:Nat->Prop)(S:Nat->Env)(h0:inv 0)(hw:Wk E e (S 0))
  (step:∀n,n<=L->inv n->wpC P E b (AExit.then (λe'=>n<L/\inv (n+1)/\Wk E e' (S (n+1))) Q) (S n)):AWp P E (.loop b) Q e :=
 xhg (ι:=Nat) (I:=λn=>n<=L/\inv n) (S:=S) (μ:=λn=>L - n) 0 ⟨dq _,h0⟩ hw λn ⟨hn,hI⟩ =>
  (jo _ _ _ (step n hn hI)).mono λx e' hx=>by
   cases x with
   |normal=>exact⟨n+1,⟨hx.1,hx.2.1⟩,by have:=hx.1;omega,hx.2.2⟩
   |_=>exact hx
end
attribute [go_sem] Ex.c_eq St.c_eq Ex.x St.x
@[simp] theorem joc(s:ig):xbc s 0=qq s 0:=rfl
@[simp] theorem jmm(b:UInt8):IntKind.i32.wrap (b.toNat:Int)=b.toNat:=by
 have:=b.toNat_lt;simp[IntKind.wrap,IntKind.bits,IntKind.signed];omega
def ltr(c:Int):Bool:=decide (97<=c)&&decide (c<=122)
def qw7(c:Int):Bool:=ltr c||(decide (48<=c)&&decide (c<=57))||decide (c=95)
def qud:List UInt8->Nat
 | []=>0
 |b::l=>if qw7 b.toNat then qud l+1 else 0
def kw(s:ig):Bool :=
 decide (s=⟨#[112,114,111,99]⟩)||decide (s=⟨#[108,101,116]⟩)||decide (s=⟨#[112,117,116]⟩)||decide (s=⟨#[100,101,108,101,116,101]⟩)||decide (s=⟨#[105,102]⟩)||decide (s=⟨#[101,108,115,101]⟩)||decide (s=⟨#[102,111,114]⟩)||decide (s=⟨#[116,111]⟩)||decide (s=⟨#[109,97,120]⟩)||decide (s=⟨#[101,109,105,116]⟩)||decide (s=⟨#[97,98,111,114,116]⟩)||decide (s=⟨#[110,111,116]⟩)||decide (s=⟨#[97,110,100]⟩)||decide (s=⟨#[111,114]⟩)||decide (s=⟨#[105,110,116]⟩)||decide (s=⟨#[115,116,114]⟩)||decide (s=⟨#[98,111,111,108]⟩)||decide (s=⟨#[116,101,120,116]⟩)||decide (s=⟨#[108,101,110]⟩)||decide (s=⟨#[103,101,116,105,110,116]⟩)||decide (s=⟨#[103,101,116,115,116,114]⟩)||decide (s=⟨#[104,97,115]⟩)||decide (s=⟨#[110,111,119]⟩)||decide (s=⟨#[114,97,110,100,111,109]⟩)||decide (s=⟨#[110,111,100,101]⟩)
def qst(s:ig):Bool:=!decide (s=em)&&decide ((s.size:Int)<=16)&&ltr (qq s 0).toNat&&decide ((qud (bl s):Int)=s.size)&&!kw s
def arity(op:Int):Int:=if op<1\/27<op then -1 else if op<=3\/25<=op then 0 else if op=9\/op=18\/20<=op then 1 else 2
def qd1(op n:Int)(s:ig)(k:Nat)(d:Int):Int :=
 if arity op<0\/(op≠1/\n≠0)\/(op≠2/\op≠3/\s≠em)then 1
 else if op=3/\qst s=false then 7
 else if (op=1/\n<0)\/(op=2/\pp s=false)\/(k:Int)≠arity op then 1
 else if 12<d then 2 else 0
mutual
def py:Ex->Nat->Int
 | .mk op n s args,d=>if qd1 op n s args.length d=0 then qk4 args (d+1)else qd1 op n s args.length d
def qk4:List Ex->Nat->Int
 | [],_=>0
 |e::l,d=>if py e d=0 then qk4 l d else py e d
end
theorem qyz(e:Ex)(d:Nat):py e d=if qd1 e.op e.n e.s e.args.length d=0 then qk4 e.args (d+1)else qd1 e.op e.n e.s e.args.length d:=by
 cases e with
 |mk o n s a=>rw[py];rfl
theorem Ex.arg_lt{e x:Ex}(h:x∈e.args):SizeOf.sizeOf x<SizeOf.sizeOf e:=by
 cases e with
 |mk o n s a =>
  have:=gb (show x∈a from h);simp only[Ex.mk.sizeOf_spec];omega
structure Uses where
 name:Bool
 a:Bool
 b:Bool
 max:Bool
 body:Bool
 other:Bool
def Uses.c(u:Uses):List AV:=[Bo u.name,Bo u.a,Bo u.b,Bo u.max,Bo u.body,Bo u.other]
attribute [go_sem] Uses.c
def uo(op:Int):Uses×Bool :=
 if op=1\/op=2 then(⟨true,true,false,false,false,false⟩,true)
 else if op=3 then(⟨false,true,true,false,false,false⟩,true)
 else if op=4\/op=7 then(⟨false,true,false,false,false,false⟩,true)
 else if op=5 then(⟨false,true,false,false,true,true⟩,true)
 else if op=6 then(⟨true,true,true,true,true,false⟩,true)
 else if op=8 then(⟨false,false,false,true,false,false⟩,true)
 else(⟨false,false,false,false,false,false⟩,false)
def qyc(e:Ex):Bool:=decide (e.op=0)&&decide (e.n=0)&&decide (e.s=em)&&decide (e.args.length=0)
def qve(s:St)(u:Uses):Bool :=
 !((!u.name&&!decide (s.name=em))||(!u.a&&!qyc s.a)||(!u.b&&!qyc s.b)||(!u.max&&!decide (s.max=0))||(!u.body&&decide (0<s.body.length))||(!u.other&&decide (0<s.els.length))) &&
 (if s.op=6 then decide (1<=s.max)&&decide (s.max<=16)else if s.op=8 then decide (0<=s.max)&&decide (s.max<=999)else true)
def qc8(s:St)(d:Int):Int :=
 let u:=(uo s.op).1
 if (uo s.op).2=false\/qve s u=false then 1
 else if u.name=true/\qst s.name=false then 7
 else if u.a=true/\py s.a 1≠0 then py s.a 1
 else if u.b=true/\py s.b 1≠0 then py s.b 1
 else if 12<d then 2 else 0
def qy3:List Param->List Param->Int
 |_,[]=>0
 |pre,p::l=>if qst p.name=false then 7 else if p.ty<1\/3<p.ty then 10 else if si (λq=>decide (q.name=p.name)) pre then 8 else qy3 (pre++[p]) l
def xad(l:List Param):Int:=if 6<l.length then 2 else qy3 [] l
theorem jfd{s:ig}{p:Nat}(h:p<s.size)(hb:(qq s p).toNat<128):Utf8.decode s p=((qq s p).toNat,1):=by
 have e:s.get! p=qq s p:=by
  have h':p<s.data.size:=h;simp[ByteArray.get!,qq,bl,qkg,Array.getElem!_eq_getD,Array.getD];rw[dif_pos h,fi h',gq]
 unfold Utf8.decode;simp only[ea,e];rw[if_pos hb]
theorem xyv{s:ig}{p:Nat}(h:p<s.size)(hb:¬(qq s p).toNat<128):128<=(Utf8.decode s p).1:=by
 have e:s.get! p=qq s p:=by
  have h':p<s.data.size:=h;simp[ByteArray.get!,qq,bl,qkg,Array.getElem!_eq_getD,Array.getD];rw[dif_pos h,fi h',gq]
 unfold Utf8.decode;simp only[ea,e];rw[if_neg hb];split
 .split
  .assumption
  .simp[Utf8.runeError]
 .split
  .split
   .grind
   .simp[Utf8.runeError]
  .split
   .split
    .grind
    .simp[Utf8.runeError]
   .simp[Utf8.runeError]
mutual
def exW:Ex->Nat->Nat
 | .mk _ _ _ args,left=>if left=0 then 0 else qtj args (left - 1)
def qtj:List Ex->Nat->Nat
 | [],n=>n
 |e::l,n=>qtj l (exW e n)
end
theorem xg9(e:Ex)(n:Nat):exW e n=if n=0 then 0 else qtj e.args (n - 1):=by
 cases e with
 |mk o k s a=>rw[exW];rfl
mutual
theorem xh1:∀(e:Ex) (n:Nat),exW e n<=n
 | .mk _ _ _ args,n=>by
  rw[exW];split
  .omega
  .have:=xix args (n - 1);omega
theorem xix:∀(l:List Ex) (n:Nat),qtj l n<=n
 | [],n=>by rw[qtj];omega
 |e::l,n=>by
  rw[qtj];have:=xix l (exW e n);have:=xh1 e n;omega
end
theorem jc7(e:Ex){n:Nat}(h:n≠0):exW e n<n:=by grind[xg9,xix]
section
variable {σ:Type} (fS:σ->St->Nat->σ) (fR:σ->Ex->σ)
def ta(e:Ex)(x:Nat×σ):Nat×σ:=if x.1=0\/qyc e=true then x else(exW e x.1,fR x.2 e)
mutual
def stW:St->Nat->Nat×σ->Nat×σ
 | .mk _ _ _ a b body els,d,x=>qu els (d+1) (qu body (d+1) (ta fR b (ta fR a x)))
def qu:List St->Nat->Nat×σ->Nat×σ
 | [],_,x=>x
 |s::l,d,x=>if x.1=0 then x else qu l d (stW s d (x.1 - 1,fS x.2 s d))
end
theorem jdg(s:St)(d:Nat)(x:Nat×σ):stW fS fR s d x=qu fS fR s.els (d+1) (qu fS fR s.body (d+1) (ta fR s.b (ta fR s.a x))):=by
 cases s;rw[stW];rfl
theorem xd5(e:Ex)(x:Nat×σ):(ta fR e x).1<=x.1:=by grind[ta,xh1]
mutual
theorem jgg:∀(s:St) (d:Nat) (x:Nat×σ),(stW fS fR s d x).1<=x.1
 | .mk _ _ _ a b body els,d,x=>by
  rw[stW];have h1:=quf els (d+1) (qu fS fR body (d+1) (ta fR b (ta fR a x)));have h2:=quf body (d+1) (ta fR b (ta fR a x));have h3:=xd5 fR b (ta fR a x);have h4:=xd5 fR a x;omega
theorem quf:∀(l:List St) (d:Nat) (x:Nat×σ),(qu fS fR l d x).1<=x.1
 | [],d,x=>by rw[qu];omega
 |s::l,d,x=>by
  rw[qu];split
  .omega
  .have h1:=quf l d (stW fS fR s d (x.1 - 1,fS x.2 s d));have h2:=jgg s d (x.1 - 1,fS x.2 s d);simp only at h2;omega
end
section
variable (K:σ->Nat) (hS:∀s t d,K (fS s t d)<=K s+1) (hR:∀s e,K (fR s e)<=K s+1)
include hR in
theorem xfx(e:Ex)(x:Nat×σ):K (ta fR e x).2+(ta fR e x).1<=K x.2+x.1:=by
 unfold ta;split
 .omega
 .rename_i h;have h0:x.1≠0:=λh1=>h (.inl h1);have h1:=jc7 e h0;have h2:=hR x.2 e;simp only;omega
include hS hR in
mutual
theorem jjx:∀(s:St) (d:Nat) (x:Nat×σ),K (stW fS fR s d x).2+(stW fS fR s d x).1<=K x.2+x.1
 | .mk _ _ _ a b body els,d,x=>by
  rw[stW];have h1:=qwf els (d+1) (qu fS fR body (d+1) (ta fR b (ta fR a x)));have h2:=qwf body (d+1) (ta fR b (ta fR a x));have h3:=xfx fR K hR b (ta fR a x);have h4:=xfx fR K hR a x;omega
theorem qwf:∀(l:List St) (d:Nat) (x:Nat×σ),K (qu fS fR l d x).2+(qu fS fR l d x).1<=K x.2+x.1
 | [],d,x=>by rw[qu];omega
 |s::l,d,x=>by
  rw[qu];split
  .omega
  .have h1:=qwf l d (stW fS fR s d (x.1 - 1,fS x.2 s d));have h2:=jjx s d (x.1 - 1,fS x.2 s d);have h3:=hS x.2 s d;simp only at h2;omega
end
end
end
theorem St.body_le(s:St):SizeOf.sizeOf s.body<SizeOf.sizeOf s:=by
 cases s;simp only[St.mk.sizeOf_spec,St.body];omega
theorem St.els_le(s:St):SizeOf.sizeOf s.els<SizeOf.sizeOf s:=by
 cases s;simp only[St.mk.sizeOf_spec,St.els];omega
structure WH{σ:Type}(P:Program)(w:Nat)(fs fr:FuncId)(cs cr:List AV)(H:Nat->σ->g9)(fS:σ->St->Nat->σ)(fR:σ->Ex->σ)(n0:Nat)(K:σ->Nat)(M:Nat):Prop where
 len:∀left s,(H left s).length=n0
 lt:w<n0
 look:∀(left:Nat) s,(H left s)[w]?=some (.cells [I left,.fn (.func fs) [] cs,.fn (.func fr) [] cr])
 set:∀(left qux:Nat) s,(H left s).set w (.cells [I qux,.fn (.func fs) [] cs,.fn (.func fr) [] cr])=H qux s
 und:∀left s,hUnder n0 (H left s)=true
 ncs:∀h,ko h cs=cs
 ncr:∀h,ko h cr=cr
 hS:∀s t d,K (fS s t d)<=K s+1
 hR:∀s e,K (fR s e)<=K s+1
 stmt:∀left s L (t:St) (d:Nat),K s+left+1<=M->ACalls P fs ([.agg t.x,I d]++cs) (H left s++L) λr h'=>r=.ret (.tuple [])/\h'=H left (fS s t d)++L
 root:∀left s L (e:Ex),K s+left<=M->left≠0->ACalls P fr ([.agg e.x]++cr) (H left s++L) λr h'=>r=.ret (.tuple [])/\h'=H left (fR s e)++L
theorem WH.w'{σ:Type}{P:Program}{w:Nat}{fs fr:FuncId}{cs cr:List AV}{H:Nat->σ->g9}{fS:σ->St->Nat->σ}{fR:σ->Ex->σ}{n0:Nat}{K:σ->Nat}{M:Nat}(W:WH P w fs fr cs cr H fS fR n0 K M)(left:Nat)(s:σ)(l:g9) :
  (H left s++l)[w]?=some (.cells [I left,.fn (.func fs) [] cs,.fn (.func fr) [] cr]):=by
 rw[co (by rw[W.len];exact W.lt)];exact W.look left s
theorem WH.set'{σ:Type}{P:Program}{w:Nat}{fs fr:FuncId}{cs cr:List AV}{H:Nat->σ->g9}{fS:σ->St->Nat->σ}{fR:σ->Ex->σ}{n0:Nat}{K:σ->Nat}{M:Nat}(W:WH P w fs fr cs cr H fS fR n0 K M)(left qux:Nat)(s:σ)(l:g9) :
  (H left s++l).set w (.cells [I qux,.fn (.func fs) [] cs,.fn (.func fr) [] cr])=H qux s++l:=by
 rw[e6 _ _ (by rw[W.len];exact W.lt),W.set]
section
variable {σ:Type} {P:Program} {w:Nat} {fs fr:FuncId} {cs cr:List AV} {H:Nat->σ->g9} {fS:σ->St->Nat->σ} {fR:σ->Ex->σ} {n0:Nat} {K:σ->Nat} {M:Nat}
theorem WH.und'(W:WH P w fs fr cs cr H fS fR n0 K M)(left:Nat)(s:σ):hUnder (H left s).length (H left s)=true:=by rw[W.len];exact W.und left s
theorem WH.ext(W:WH P w fs fr cs cr H fS fR n0 K M)(L:g9)(hL:hUnder (n0+L.length) L=true):WH P w fs fr cs cr (λleft s=>H left s++L) fS fR (n0+L.length) K M where
 len:=λleft s=>by rw[c7,W.len]
 lt:=by have:=W.lt;omega
 look:=λleft s=>W.w' left s L
 set:=λleft qux s=>W.set' left qux s L
 und:=λleft s=>by rw[qx,uk aa (W.und left s),hL];rfl
 ncs:=W.ncs
 ncr:=W.ncr
 hS:=W.hS
 hR:=W.hR
 stmt:=λleft s L' t d hk=>by simpa[dn]using W.stmt left s (L++L') t d hk
 root:=λleft s L' e hk h0=>by simpa[dn]using W.root left s (L++L') e hk h0
theorem WH.loc0(W:WH P w fs fr cs cr H fS fR n0 K M)(left:Nat)(s:σ)(x:AObj)(l:g9):(H left s++x::l)[n0]?=some x:=by
 rw[cx qhp,W.len,fe];rfl
theorem WH.loc1(W:WH P w fs fr cs cr H fS fR n0 K M)(left:Nat)(s:σ)(x y:AObj)(l:g9):(H left s++x::y::l)[n0+1]?=some y:=by
 rw[cx qhp,W.len,show n0+1 - n0=1 by omega];rfl
theorem WH.set0(W:WH P w fs fr cs cr H fS fR n0 K M)(left:Nat)(s:σ)(x y:AObj)(l:g9):(H left s++x::l).set n0 y=H left s++y::l:=by
 rw[fk _ _ qhp,W.len,fe];rfl
theorem WH.set1(W:WH P w fs fr cs cr H fS fR n0 K M)(left:Nat)(s:σ)(x y z:AObj)(l:g9):(H left s++x::y::l).set (n0+1) z=H left s++x::z::l:=by
 rw[fk _ _ qhp,W.len,show n0+1 - n0=1 by omega];rfl
end
structure CB{σ:Type}(P:Program)(fs fr:FuncId)(cs cr:List AV)(H:σ->g9)(fS:σ->St->Nat->σ)(fR:σ->Ex->σ)(n0:Nat)(K:σ->Nat)(M:Nat):Prop where
 len:∀s,(H s).length=n0
 und:∀s,hUnder n0 (H s)=true
 ucs:lj n0 cs=true
 ucr:lj n0 cr=true
 ncs:∀h,ko h cs=cs
 ncr:∀h,ko h cr=cr
 hS:∀s t d,K (fS s t d)<=K s+1
 hR:∀s e,K (fR s e)<=K s+1
 stmt:∀s L (t:St) (d:Nat),K s+1<=M->ACalls P fs ([.agg t.x,I d]++cs) (H s++L) λr h'=>r=.ret (.tuple [])/\h'=H (fS s t d)++L
 root:∀s L (e:Ex),K s+1<=M->ACalls P fr ([.agg e.x]++cr) (H s++L) λr h'=>r=.ret (.tuple [])/\h'=H (fR s e)++L
theorem CB.walk{σ:Type}{P:Program}{fs fr:FuncId}{cs cr:List AV}{H:σ->g9}{fS:σ->St->Nat->σ}{fR:σ->Ex->σ}{n0:Nat}{K:σ->Nat}{M:Nat}(B:CB P fs fr cs cr H fS fR n0 K M)(o:AObj)(ho:o.under n0=true) :
  WH P (n0+1) fs fr cs cr (λleft s=>H s++[o,.cells [I left,.fn (.func fs) [] cs,.fn (.func fr) [] cr]]) fS fR (n0+2) K M where
 len:=λleft s=>by simp[B.len]
 lt:=aa
 look:=λleft s=>by
  rw[cx qhq,B.len,show n0+1 - n0=1 by omega];rfl
 set:=λleft qux s=>by
  rw[fk _ _ qhq,B.len,show n0+1 - n0=1 by omega];rfl
 und:=λleft s=>by
  have h1:hUnder (n0+2) [o]=true:=uk (n:=n0) aa (by simp[hUnder,ho]);have h2:=qbz (show n0<=n0+2 by omega) cs B.ucs;have h3:=qbz (show n0<=n0+2 by omega) cr B.ucr;rw[qx,uk aa (B.und s),dh];simp only[hUnder,fa]at h1;simp only[hUnder,h1,dh,fa];show lj _ _=true;simp[lj,AV.under,h2,h3]
 ncs:=B.ncs
 ncr:=B.ncr
 hS:=B.hS
 hR:=B.hR
 stmt:=λleft s L t d hk=>by simpa[dn]using B.stmt s ([o,.cells [I left,.fn (.func fs) [] cs,.fn (.func fr) [] cr]]++L) t d aa
 root:=λleft s L e hk h0=>by simpa[dn]using B.root s ([o,.cells [I left,.fn (.func fs) [] cs,.fn (.func fr) [] cr]]++L) e aa
def qlh(d0:Int)(t:St)(d:Nat):Int:=if d0=0 then qc8 t d else d0
def wu{σ:Type}(s:σ)(_:Ex):σ:=s
def qyi{σ:Type}(s:σ)(_:St)(_:Nat):σ:=s
def qps(p:Proc):Int :=
 if qst p.name=false then 7
 else if xad p.params≠0 then xad p.params
 else
  let x:=qu qlh wu p.body 1 (401,(0:Int))
  if x.2=0/\x.1=0 then 2 else x.2
def qra(l:List ig)(t:St)(_:Nat):List ig:=if t.op=1\/t.op=6 then l++[t.name]else l
def qrq(p:Proc):List ig:=(qu qra wu p.body 1 (401,p.params.map (·.name))).2
def qxu(l:List Ex)(e:Ex):List Ex:=l++[e]
def uw(p:Proc):List Ex:=(qu qyi qxu p.body 1 (401,[])).2
theorem xlo(l:List ig)(t:St)(d:Nat):(qra l t d).length<=l.length+1:=by grind[qra]
def r5(op:Int):Int×Int :=
 if op=1\/op=25\/op=26\/op=27\/op=4\/op=5\/op=6\/op=7\/op=8\/op=9 then(1,1)
 else if op=2\/op=19\/op=23 then(2,2)
 else if op=16\/op=17\/op=18 then(3,3)
 else if op=20 then(1,2)
 else if op=21\/op=22 then(2,1)
 else(2,3)
def xdl(op ty:Int):Bool:=!decide (ty=3)||decide (op=10)||decide (op=11)
def qvl(op:Int):Bool:=decide (op=25)||decide (op=26)||decide (op=27)
abbrev pi(n:Int):Int:=IntKind.i64.wrap n
def qql(a:Int):Int×Int:=if a = -9223372036854775808 then(0,3)else(pi (-a),0)
def qwi(a b:Int):Int×Int:=if (0<b/\pi (a+b)<a)\/(b<0/\a<pi (a+b))then(0,3)else(pi (a+b),0)
def qwd(a b:Int):Int×Int:=if (0<b/\a<pi (a - b))\/(b<0/\pi (a - b)<a)then(0,3)else(pi (a - b),0)
def qsl(a b:Int):Int×Int :=
 if a=0\/b=0 then(0,0)else if a = -1 then qql b else if b = -1 then qql a
 else if pi ((pi (a * b)).tdiv b)≠a then(0,3)else(pi (a * b),0)
def qt7(a b:Int):Int×Int :=
 if b=0 then(0,4)else if b = -1 then qql a
 else if a.tmod b≠0/\decide (a<0)≠decide (b<0)then(pi (pi (a.tdiv b) - 1),0)else(pi (a.tdiv b),0)
def qta(a b:Int):Int×Int :=
 if b=0 then(0,4)else if b = -1 then(0,0)
 else if a.tmod b≠0/\decide (a.tmod b<0)≠decide (b<0)then(pi (a.tmod b+b),0)else(a.tmod b,0)
def qtf(a b:Int):Int:=if a<b then -1 else if b<a then 1 else 0
def qti(a b:ig):Int:=Go.Lib.compareBytes a.data.toList b.data.toList
def qq8(u v:V):Int:=if u.k≠v.k then qtf u.k v.k else if u.n=v.n then qti u.s v.s else qtf u.n v.n
def mr{α:Type}(f:α->AV)(l:List (ig×α)):List (AV×AV):=ra (l.map λp=>(p.1,f p.2))
def kz{α:Type}:List (ig×α)->ig->Option α
 | [],_=>none
 |p::l,s=>if p.1=s then some p.2 else kz l s
def lx{α:Type}:List (ig×α)->ig->α->List (ig×α)
 | [],s,v=>[(s,v)]
 |p::l,s,v=>if p.1=s then(s,v)::l else p::lx l s v
def qog{α:Type}:List (ig×α)->ig->List (ig×α)
 | [],_=>[]
 |p::l,s=>if p.1=s then l else p::qog l s
@[simp] theorem joe{α:Type}(f:α->AV)(l:List (ig×α)):strKeys (mr f l)=some (l.map λp=>(p.1,f p.2)):=by
 induction l with
 |nil=>rfl
 |cons p l ih =>
  simp only[mr,ra,dj,strKeys]at ih|-;rw[ih];rfl
@[simp] theorem jml{α:Type}(f:α->AV)(l:List (ig×α))(s:ig):qsw (l.map λp=>(p.1,f p.2)) s=(kz l s).map f:=by
 induction l with
 |nil=>rfl
 |cons p l ih =>
  simp only[dj,qsw,kz,ih];split<;>rfl
@[simp] theorem xnb{α:Type}(f:α->AV)(l:List (ig×α))(s:ig)(v:α):ra (qsi (l.map λp=>(p.1,f p.2)) s (f v))=mr f (lx l s v):=by
 rw[mr];congr 1
 induction l with
 |nil=>rfl
 |cons p l ih =>
  simp only[dj,qsi,lx,ih];split<;>rfl
@[simp] theorem jle{α:Type}(f:α->AV)(l:List (ig×α))(s:ig):ra (quw (l.map λp=>(p.1,f p.2)) s)=mr f (qog l s):=by
 rw[mr];congr 1
 induction l with
 |nil=>rfl
 |cons p l ih =>
  simp only[dj,quw,qog,ih];split<;>rfl
def xa7:Option Int->Int×Int
 |none=>(0,11)
 |some ty=>if ty<1\/3<ty then(0,10)else(ty,0)
mutual
def ofE(vars:List (ig×Int)):Ex->Int×Int
 | .mk op _ s args =>
  if op=3 then xa7 (kz vars s)
  else match ofL vars args with
   |(e,tys) =>
    if e≠0 then(0,e)
    else if 10<=op/\op<=15 then(if tys.getD 0 0≠tys.getD 1 0\/xdl op (tys.getD 0 0)=false then(0,10)else(3,0))
    else if tys.all (λt=>decide (t=(r5 op).1))then((r5 op).2,0)else(0,10)
def ofL(vars:List (ig×Int)):List Ex->Int×List Int
 | []=>(0,[])
 |e::l=>if (ofE vars e).2≠0 then((ofE vars e).2,[])else((ofL vars l).1,(ofE vars e).1::(ofL vars l).2)
end
theorem xj4(vars:List (ig×Int))(e:Ex):ofE vars e =
  if e.op=3 then xa7 (kz vars e.s)
  else if (ofL vars e.args).1≠0 then(0,(ofL vars e.args).1)
  else if 10<=e.op/\e.op<=15 then(if (ofL vars e.args).2.getD 0 0≠(ofL vars e.args).2.getD 1 0\/xdl e.op ((ofL vars e.args).2.getD 0 0)=false then(0,10)else(3,0))
  else if (ofL vars e.args).2.all (λt=>decide (t=(r5 e.op).1))then((r5 e.op).2,0)else(0,10):=by
 cases e with
 |mk o n s a=>rw[ofE];rfl
theorem xxr{l:List Ex}{d:Nat}(h:qk4 l d=0):∀x∈l,py x d=0:=by
 induction l with
 |nil=>simp
 |cons e l ih =>
  rw[qk4]at h;split at h
  .grind
  .omega
theorem xxo{e:Ex}{d:Nat}(h:py e d=0):∀x∈e.args,py x (d+1)=0:=by grind[qyz,xxr]
theorem xbk{e:Ex}{d:Nat}(h:py e d=0):(e.args.length:Int)=arity e.op:=by grind[qyz,qd1]
section
structure TS where
 visible:List (ig×Int)
 loops:List (ig×Bool)
 all:List (ig×Int)
def TS.decl(s:TS)(name:ig)(ty:Int):TS:=⟨lx s.visible name ty,s.loops,lx s.all name ty⟩
def uf(vis:List (ig×Int))(t:St):Int×Int×Int :=
 if t.op=8 then(0,0,0)
 else if (ofE vis t.a).2=0/\(t.op=3\/t.op=6)then((ofE vis t.a).1,(ofE vis t.b).1,(ofE vis t.b).2)
 else((ofE vis t.a).1,0,(ofE vis t.a).2)
def qph(l:List St)(vis:List (ig×Int)):List (ig×Int) :=
 match l with
 | []=>vis
 |s::l=>qph l (if s.op=1 then qog vis s.name else vis)
def okS:St->Nat->Prop
 | .mk op name mx a b body els,d=>qc8 (.mk op name mx a b body els) d=0/\(∀x∈body.attach,okS x.1 (d+1))/\(∀x∈els.attach,okS x.1 (d+1))
termination_by s=>SizeOf.sizeOf s
decreasing_by
 all_goals
  have:=gb x.2;simp only[St.mk.sizeOf_spec];omega
def okL(l:List St)(d:Nat):Prop:=∀s∈l,okS s d
theorem qso(s:St)(d:Nat):okS s d↔qc8 s d=0/\okL s.body (d+1)/\okL s.els (d+1):=by
 cases s with
 |mk op name mx a b body els =>
  rw[okS];simp[okL,St.body,St.els]
theorem xwd{e:Int}{t:St}{d:Nat}(h:qlh e t d=0):e=0/\qc8 t d=0:=by grind[qlh]
theorem xmu{σ:Type}(e:Ex)(x:Nat×σ):(ta wu e x).2=x.2:=by grind[ta,wu]
mutual
theorem jha:∀(s:St) (d:Nat) (x:Nat×Int),(stW qlh wu s d x).2=0->(stW qlh wu s d x).1≠0->x.2=0/\okL s.body (d+1)/\okL s.els (d+1)
 | .mk _ _ _ a b body els,d,x,h0,h1=>by
  rw[stW]at h0 h1;have h2:=xd3 els (d+1) _ h0 h1;have hl:=quf qlh wu els (d+1) (qu qlh wu body (d+1) (ta wu b (ta wu a x)));have h3:=xd3 body (d+1) _ h2.1 aa;rw[xmu,xmu]at h3;exact⟨h3.1,h3.2,h2.2⟩
theorem xd3:∀(l:List St) (d:Nat) (x:Nat×Int),(qu qlh wu l d x).2=0->(qu qlh wu l d x).1≠0->x.2=0/\okL l d
 | [],d,x,h0,h1=>by grind[qu,okL]
 |s::l,d,x,h0,h1=>by
  rw[qu]at h0 h1;split at h0
  .grind
  .rename_i hz;rw[if_neg hz]at h1;have h2:=xd3 l d _ h0 h1;have hl:=quf qlh wu l d (stW qlh wu s d (x.1 - 1,qlh x.2 s d));have h3:=jha s d _ h2.1 aa;have h4:=xwd h3.1;refine⟨h4.1,λy hy=>?_⟩;rcases c0.1 hy with rfl|hy
   .grind[qso]
   .exact h2.2 y hy
end
theorem xow{p:Proc}(h:qps p=0):okL p.body 1:=by
 unfold qps at h;split at h
 .omega
 split at h
 .omega
 simp only at h;split at h
 .omega
 rename_i h1;simp only[not_and]at h1;exact(xd3 p.body 1 (401,0) h (h1 h)).2
theorem jf7{t:St}{d:Nat}(h:qc8 t d=0)(ho:(uo t.op).1.a=true):py t.a 1=0:=qiw
theorem jba{t:St}{d:Nat}(h:qc8 t d=0)(ho:(uo t.op).1.b=true):py t.b 1=0:=qiw
structure TH(c a b d:Nat)(H:TS->g9)(n0:Nat):Prop where
 len:∀s,(H s).length=n0
 hc:c<n0
 ha:a<n0
 hb:b<n0
 hd:d<n0
 lc:∀s,(H s)[c]?=some (.cells [.mapr a,.mapr b,.mapr d])
 la:∀s,(H s)[a]?=some (.map (mr I s.visible))
 lb:∀s,(H s)[b]?=some (.map (mr Bo s.loops))
 ld:∀s,(H s)[d]?=some (.map (mr I s.all))
 sa:∀s v,(H s).set a (.map (mr I v))=H ⟨v,s.loops,s.all⟩
 sb:∀s v,(H s).set b (.map (mr Bo v))=H ⟨s.visible,v,s.all⟩
 sd:∀s v,(H s).set d (.map (mr I v))=H ⟨s.visible,s.loops,v⟩
 und:∀s,hUnder n0 (H s)=true
section
variable {c a b d:Nat} {H:TS->g9} {n0:Nat}
theorem TH.gl(T:TH c a b d H n0){i:Nat}(hi:i<n0)(s:TS)(l:g9):(H s++l)[i]?=(H s)[i]?:=co (by rw[T.len];exact hi)
theorem TH.lc'(T:TH c a b d H n0)(s:TS)(l:g9):(H s++l)[c]?=some (.cells [.mapr a,.mapr b,.mapr d]):=by rw[T.gl T.hc,T.lc]
theorem TH.la'(T:TH c a b d H n0)(s:TS)(l:g9):(H s++l)[a]?=some (.map (mr I s.visible)):=by rw[T.gl T.ha,T.la]
theorem TH.lb'(T:TH c a b d H n0)(s:TS)(l:g9):(H s++l)[b]?=some (.map (mr Bo s.loops)):=by rw[T.gl T.hb,T.lb]
theorem TH.ld'(T:TH c a b d H n0)(s:TS)(l:g9):(H s++l)[d]?=some (.map (mr I s.all)):=by rw[T.gl T.hd,T.ld]
theorem TH.sa'(T:TH c a b d H n0)(s:TS)(v:List (ig×Int))(l:g9):(H s++l).set a (.map (mr I v))=H ⟨v,s.loops,s.all⟩++l:=by rw[e6 _ _ (by rw[T.len];exact T.ha),T.sa]
theorem TH.sb'(T:TH c a b d H n0)(s:TS)(v:List (ig×Bool))(l:g9):(H s++l).set b (.map (mr Bo v))=H ⟨s.visible,v,s.all⟩++l:=by rw[e6 _ _ (by rw[T.len];exact T.hb),T.sb]
theorem TH.sd'(T:TH c a b d H n0)(s:TS)(v:List (ig×Int))(l:g9):(H s++l).set d (.map (mr I v))=H ⟨s.visible,s.loops,v⟩++l:=by rw[e6 _ _ (by rw[T.len];exact T.hd),T.sd]
theorem TH.und'(T:TH c a b d H n0)(s:TS):hUnder (H s).length (H s)=true:=by rw[T.len];exact T.und s
theorem TH.ext(T:TH c a b d H n0)(L:g9)(hL:hUnder (n0+L.length) L=true):TH c a b d (λs=>H s++L) (n0+L.length) where
 len:=λs=>by rw[c7,T.len]
 hc:=by have:=T.hc;omega
 ha:=by have:=T.ha;omega
 hb:=by have:=T.hb;omega
 hd:=by have:=T.hd;omega
 lc:=λs=>T.lc' s L
 la:=λs=>T.la' s L
 lb:=λs=>T.lb' s L
 ld:=λs=>T.ld' s L
 sa:=λs v=>T.sa' s v L
 sb:=λs v=>T.sb' s v L
 sd:=λs v=>T.sd' s v L
 und:=λs=>by rw[qx,uk aa (T.und s),hL];rfl
end
end
end Go.Cw
