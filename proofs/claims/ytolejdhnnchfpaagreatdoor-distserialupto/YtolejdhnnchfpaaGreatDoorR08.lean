/- Part 8 of a proof. -/
import Derived.Lib.Bytealg
import Derived.Test.YtolejdhnnchfpaaGreatDoorR05
set_option linter.all false
set_option maxRecDepth 100000
set_option maxHeartbeats 4000000
namespace Go.Cw
open Go Go.Abs
abbrev na:=ByteArray
abbrev I(n:Int):V:=.val (.int .i64 n)
abbrev my(s:na):V:=.val (.string s)
abbrev Bo(b:Bool):V:=.val (.bool b)
abbrev U8(n:Int):V:=.val (.int .u8 n)
abbrev P0(i:Nat):V:=.ptr i 0
def ny(s:na):List V:=[my s]
def qe(n:Int):List V:=[I n]
structure AV where
 k:Int
 n:Int
 s:na
def AV.c(v:AV):List V:=[I v.k,I v.n,my v.s]
def AV.nil:AV:=⟨0,0,⟨#[]⟩⟩
structure Pr where
 key:na
 v:AV
def Pr.c(p:Pr):List V:=[my p.key,I p.v.k,I p.v.n,my p.v.s]
inductive Ex where
 |mk (op n:Int) (s:na) (args:List Ex)
mutual
def Ex.c:Ex->List V
 | .mk op n s args=>[I op,I n,my s,.slice (Ex.cl args)]
def Ex.cl:List Ex->List (List V)
 | []=>[]
 |e::l=>e.c::Ex.cl l
end
theorem Ex.cl_map:∀l,Ex.cl l=l.map Ex.c
 | []=>rfl
 |e::l=>by simp[Ex.cl,Ex.cl_map l]
def Ex.op:Ex->Int| .mk o _ _ _=>o
def Ex.n:Ex->Int| .mk _ n _ _=>n
def Ex.s:Ex->na| .mk _ _ s _=>s
def Ex.args:Ex->List Ex| .mk _ _ _ a=>a
abbrev Ex.x(e:Ex):List V:=[I e.op,I e.n,my e.s,.slice (e.args.map Ex.c)]
theorem Ex.c_eq(e:Ex):e.c=e.x:=by cases e;simp[Ex.c,Ex.cl_map,Ex.op,Ex.n,Ex.s,Ex.args]
inductive St where
 |mk (op:Int) (name:na) (max:Int) (a b:Ex) (body els:List St)
mutual
def St.c:St->List V
 | .mk op name max a b body els=>[I op,my name,I max]++a.c++b.c++[.slice (St.cl body),.slice (St.cl els)]
def St.cl:List St->List (List V)
 | []=>[]
 |e::l=>e.c::St.cl l
end
theorem St.cl_map:∀l,St.cl l=l.map St.c
 | []=>rfl
 |e::l=>by simp[St.cl,St.cl_map l]
def St.op:St->Int| .mk o _ _ _ _ _ _=>o
def St.name:St->na| .mk _ n _ _ _ _ _=>n
def St.max:St->Int| .mk _ _ m _ _ _ _=>m
def St.a:St->Ex| .mk _ _ _ a _ _ _=>a
def St.b:St->Ex| .mk _ _ _ _ b _ _=>b
def St.body:St->List St| .mk _ _ _ _ _ l _=>l
def St.els:St->List St| .mk _ _ _ _ _ _ l=>l
abbrev St.x(s:St):List V:=[I s.op,my s.name,I s.max,I s.a.op,I s.a.n,my s.a.s,.slice (s.a.args.map Ex.c),I s.b.op,I s.b.n,my s.b.s,.slice (s.b.args.map Ex.c),.slice (s.body.map St.c),.slice (s.els.map St.c)]
theorem St.c_eq(s:St):s.c=s.x:=by cases s;simp[St.c,St.cl_map,St.op,St.name,St.max,St.a,St.b,St.body,St.els,Ex.c_eq]
structure Param where
 name:na
 ty:Int
def Param.c(p:Param):List V:=[my p.name,I p.ty]
structure Proc where
 name:na
 params:List Param
 body:List St
def Proc.c(p:Proc):List V:=[my p.name,.slice (p.params.map Param.c),.slice (p.body.map St.c)]
structure Foot where
 all:Bool
 reads:List na
 writes:List na
def Foot.c(f:Foot):List V:=[Bo f.all,.slice (f.reads.map ny),.slice (f.writes.map ny)]
structure Eff where
 status:Int
 code:Int
 out:List AV
 reads:List na
 puts:List na
 writes:List Pr
 miss:na
 steps:Int
def Eff.c(e:Eff):List V:=[I e.status,I e.code,.slice (e.out.map AV.c),.slice (e.reads.map ny),.slice (e.puts.map ny),.slice (e.writes.map Pr.c),my e.miss,I e.steps]
theorem eU{n:Int}(L:-9223372036854775808<=n)(O:n<9223372036854775808):IntKind.i64.wrap n=n:=by simp[IntKind.wrap,IntKind.bits,IntKind.signed];omega
@[simp] theorem qs5:IntKind.i64.wrap 0=0:=ax
@[simp] theorem qtf:IntKind.i64.wrap 1=1:=ax
@[simp] theorem qun:IntKind.i64.wrap 2=2:=ax
@[simp] theorem qv8:IntKind.i64.wrap (-1) = -1:=ax
def uG{n h0:Nat}(h:n<=h0)(hL:h0<=68719476736):IntKind.i64.wrap (n:Int)=n:=eU J J
theorem ov{α:Type}{l:List α}{n:Nat}(h:n<l.length):l.drop n=l[n]::l.drop (n+1):=qiv h
@[simp] theorem qvg{α:Type}(f:α->List V)(l:List α)(n:Nat)(h:n<l.length):(l.map f).getD n []=f l[n]:=W
attribute [go_sem] AV.nil ny qe AV.c Pr.c Param.c Proc.c Foot.c Eff.c eL V.bd
abbrev em:na:=⟨#[]⟩
def bl(s:na):List UInt8:=s.data.toList
def w9(s:na)(n:Nat):UInt8:=(bl s).getD n 0
@[simp] theorem qvb(s:na)(n:Nat):EA s (n:Int)=w9 s n:=rfl
theorem lJ{s:na}{n:Nat}(h:n<s.size):(bl s).drop n=w9 s n::(bl s).drop (n+1):=by have Y:n<(bl s).length:=h;grind[qiv,w9,ii]
theorem vA{s:na}{n:Nat}(h:¬n<s.size):(bl s).drop n=[]:=by refine gq ?_;have Y:¬n<(bl s).length:=h;omega
def ue{α:Type}(p:α->Bool):List α->Bool
 | []=>true
 |x::l=>p x&&ue p l
theorem Gr{α:Type}{p:α->Bool}:∀{l:List α},ue p l=true↔∀x,x∈l->p x=true
 | []=>by simp[ue]
 |x::l=>by simp[ue,Gr (l:=l)]
def KY(s:na):s=em\/1<=(s.size:Int):=by
 rcases s with⟨⟨l⟩⟩;cases l with
 |nil=>exact .inl rfl
 |cons x l=>refine .inr ?_;simp[ByteArray.size];omega
def iN(b:UInt8):Bool:=!(decide ((b.toNat:Int)<32)||decide ((126:Int)<b.toNat))
def tv(s:na):Bool:=ue iN (bl s)&&decide ((s.size:Int)<=64)
def xX(b:UInt8):Bool :=
 (decide ((97:Int)<=b.toNat)&&decide ((b.toNat:Int)<=122))||(decide ((48:Int)<=b.toNat)&&decide ((b.toNat:Int)<=57))||decide ((b.toNat:Int)=47)||decide ((b.toNat:Int)=46)||decide ((b.toNat:Int)=95)||decide ((b.toNat:Int)=45)
def zp(s:na):Bool:=!decide (s=em)&&decide ((s.size:Int)<=24)&&ue xX (bl s)
def dY(k n:Int)(s:na):Bool:=if k=0 then decide (n=0)&&decide (s=em)else if k=1 then decide (s=em)else if k=2 then decide (n=0)&&tv s else false
def uT(k n:Int)(s:na):Bool:=if k=3 then(decide (n=0)||decide (n=1))&&decide (s=em)else !decide (k=0)&&dY k n s
def after:Option na->na->Bool
 |none,_=>true
 |some p,k=>px p k
def cX:Option na->List na->Bool
 |_,[]=>true
 |eQ,k::l=>zp k&&after eQ k&&cX (some k) l
def zk{α:Type}(l:List α)(n:Nat):Option α:=if n=0 then none else l[n-1]?
def vi(all:Bool)(r w:List na):Bool:=if all then decide (r.length=0)&&decide (w.length=0)else(cX none r&&decide ((r.length:Int)<=64))&&(cX none w&&decide ((w.length:Int)<=64))
theorem Sp:∀a:List UInt8,Op.bytesLess a a=false
 | []=>rfl
 |x::a=>by simp[Op.bytesLess,Sp a]
def Qw:∀{a b c:List UInt8},Op.bytesLess a b=true->Op.bytesLess b c=true->Op.bytesLess a c=true
 |_,_,[],_,h=>by rename_i b _;cases b<;>simp[Op.bytesLess]at h
 |_,[],_,h,_=>by rename_i a _ _;cases a<;>simp[Op.bytesLess]at h
 | [],_::_,_::_,_,_=>by simp[Op.bytesLess]
 |x::a,y::b,hI::c,h,k=>by
  simp only[Op.bytesLess,qis,gy,jm,beq_iff_eq]at h k|-;rcases h with h|⟨rfl,h⟩
  .grind
  rcases k with k|⟨rfl,k⟩
  .grind
  exact .inr ⟨rfl,Qw h k⟩
theorem OQ:∀a b:List UInt8,Op.bytesLess a b = !(Op.bytesLess b a||a == b)
 | [],[]=>by simp[Op.bytesLess]
 | [],_::_=>by simp[Op.bytesLess]
 |_::_,[]=>by simp[Op.bytesLess]
 |x::a,y::b=>by
  have ih:=OQ a b;simp only[Op.bytesLess];by_cases h:x=y
  .grind
  grind
theorem uZ(a:na):px a a=false:=Sp _
theorem uK{a b c:na}(h:px a b=true)(k:px b c=true):px a c=true:=Qw h k
theorem A3(a b:na):px a b = !(px b a||decide (a=b)):=by grind[OQ,toList_inj,px]
theorem EQ{a b:na}(h:px a b=true):px b a=false:=by grind[uZ,uK]
theorem uI{a b:na}(h:px a b=true):¬a=b:=by grind[uZ]
theorem QG(a b:na):(px b a||decide (b=a)) = !px a b:=by rw[A3 a b,Bool.not_not];grind
def vy{α:Type}(p:α->Bool):Nat->List α->Int
 |_,[]=>-1
 |n,x::l=>if p x then n else vy p (n+1) l
def ul{α:Type}(p:α->Bool)(l:List α):Int:=vy p 0 l
def ut{α:Type}(p:α->Bool):List α->Bool
 | []=>false
 |x::l=>p x||ut p l
theorem OL{α:Type}(p:α->Bool):∀(l:List α) (n:Nat),decide (0<=vy p n l)=ut p l
 | [],n=>by simp[vy,ut]
 |x::l,n=>by
  simp only[vy,ut];by_cases h:p x=true
  .simp[h]
  simp_all[qir,qjf,OL]
theorem KZ{α:Type}(p:α->Bool)(l:List α):decide (0<=ul p l)=ut p l:=OL p l 0
def wX:Option na->List Pr->Bool
 |_,[]=>true
 |eQ,p::l=>zp p.key&&dY p.v.k p.v.n p.v.s&&after eQ p.key&&wX (some p.key) l
def ph(l:List Pr):Bool:=wX none l&&!ut (λp=>decide (p.v.k=0)) l
def pp:List Pr->na->AV
 | [],_=>AV.nil
 |p::l,k=>if p.key=k then p.v else pp l k
def rW:Option na->List Pr->Bool
 |_,[]=>true
 |eQ,p::l=>zp p.key&&after eQ p.key&&rW (some p.key) l
def tf(l:List Pr)(k:na):Bool:=ut (λp=>decide (p.key=k)) l
def wS(l:List Pr):Bool:=ue (λp=>dY p.v.k p.v.n p.v.s) l
def y9(l:List Pr):Bool:=wS l&&rW none l
def C0(l:List Pr):Bool:=!ut (λp=>decide (p.v.k=0)) l&&y9 l
theorem Kj:∀(l:List Pr) (eQ:Option na),wX eQ l=(wS l&&rW eQ l)
 | [],_=>rfl
 |p::l,eQ=>by simp only[wX,wS,ue,rW];rw[Kj l];grind[wS]
theorem L2(l:List Pr):C0 l=ph l:=by simp[C0,ph,y9,Kj,Bool.and_comm]
def zq(k:na):List Pr->Nat
 | []=>0
 |p::l=>if px p.key k then zq k l+1 else 0
def mR(l:List Pr)(p:Pr):List Pr:=l.take (zq p.key l)++p::l.drop (zq p.key l)
def nG(w:List Pr):List Pr->List Pr
 | []=>[]
 |p::l=>if tf w p.key then nG w l else p::nG w l
def oX:List Pr->List Pr->List Pr
 |out,[]=>out
 |out,p::l=>if p.v.k=0 then oX out l else oX (mR out p) l
def y7(l w:List Pr):List Pr:=oX (nG w l) w
def ta{α:Type}(f:α->α->Bool):List α->List α->Bool
 | [],[]=>true
 |x::l,y::l'=>f x y&&ta f l l'
 |_,_=>false
def bM(a b:AV):Bool:=decide (a.k=b.k)&&(decide (a.n=b.n)&&decide (a.s=b.s))
def iF(a b:Pr):Bool:=decide (a.key=b.key)&&bM a.v b.v
def gY(a b:na):Bool:=decide (a=b)
def xK(a b:Eff):Bool :=
 decide (a.status=b.status)&&decide (a.code=b.code)&&ta bM a.out b.out&&ta gY a.reads b.reads&&ta gY a.puts b.puts&&ta iF a.writes b.writes&&decide (a.miss=b.miss)&&decide (a.steps=b.steps)
theorem Cd{α:Type}{f:α->α->Bool}:∀{l l':List α},l.length≠l'.length->ta f l l'=false
 | [],[],h=>(h rfl).elim
 | [],_::_,_=>rfl
 |_::_,[],_=>rfl
 |x::l,y::l',h=>by simp[ta,Cd (l:=l) (l':=l') W]
theorem HG(k:na):∀l,zq k l<=l.length
 | []=>gj _
 |p::l=>by
  simp only[zq];split
  .simp[HG]
  simp
theorem qk3(l:List Pr)(p:Pr):(mR l p).length=l.length+1:=by grind[mR,HG]
@[simp] theorem qvh:ByteArray.size em=0:=rfl
def qa(l:List na)(k:na):Bool:=ut (λx=>decide (x=k)) l
theorem oi{n h0:Nat}(h:n<=h0)(hL:h0<=68719476736):IntKind.i64.wrap ((n:Int)+1)=(n:Int)+1:=eU J J
section
variable {P:Program} {E:Ent} {hu:AExit->Env->Prop} {e:Env}
def u4{α:Type}{b:Code}(h0:Nat)(inv:Nat->α->Prop)(my:Nat->α->Env)(a0:α)(L:inv 0 a0)(hw:Wk E e (my 0 a0))
  (step:∀n a,n<=h0->inv n a->kC P E b (AExit.then (λe'=>n<h0/\∃a',inv (n+1) a'/\Wk E e' (my (n+1) a')) hu) (my n a)):AWp P E (.loop b) hu e :=
 Jw (ι:=Nat×α) (I:=λx=>x.1<=h0/\inv x.1 x.2) (my:=λx=>my x.1 x.2) (μ:=λx=>h0 - x.1) (0,a0) ⟨il _,L⟩ hw λx ⟨hn,z⟩ =>
  (yd _ _ _ (step x.1 x.2 hn z)).mono λy e' hx=>by
   cases y with
   |normal =>
    obtain⟨O,a',U,h3⟩:=hx;exact⟨(x.1+1,a'),⟨O,U⟩,by simp only;omega,h3⟩
   |_=>exact hx
def po{b:Code}(h0:Nat)(inv:Nat->Prop)(my:Nat->Env)(L:inv 0)(hw:Wk E e (my 0))
  (step:∀n,n<=h0->inv n->kC P E b (AExit.then (λe'=>n<h0/\inv (n+1)/\Wk E e' (my (n+1))) hu) (my n)):AWp P E (.loop b) hu e :=
 Jw (ι:=Nat) (I:=λn=>n<=h0/\inv n) (my:=my) (μ:=λn=>h0 - n) 0 ⟨il _,L⟩ hw λn ⟨hn,z⟩ =>
  (yd _ _ _ (step n hn z)).mono λx e' hx=>by
   cases x with
   |normal=>exact⟨n+1,⟨hx.1,hx.2.1⟩,by have:=hx.1;omega,hx.2.2⟩
   |_=>exact hx
end
attribute [go_sem] Ex.c_eq St.c_eq Ex.x St.x
@[simp] theorem qs3(s:na):EA s 0=w9 s 0:=rfl
@[simp] theorem qux(b:UInt8):IntKind.i32.wrap (b.toNat:Int)=b.toNat:=by have:=b.toNat_lt;simp[IntKind.wrap,IntKind.bits,IntKind.signed];omega
def yD(c:Int):Bool:=decide (97<=c)&&decide (c<=122)
def xY(c:Int):Bool:=yD c||(decide (48<=c)&&decide (c<=57))||decide (c=95)
def pV:List UInt8->Nat
 | []=>0
 |b::l=>if xY b.toNat then pV l+1 else 0
def kw(s:na):Bool :=
 decide (s=⟨#[112,114,111,99]⟩)||decide (s=⟨#[108,101,116]⟩)||decide (s=⟨#[112,117,116]⟩)||decide (s=⟨#[100,101,108,101,116,101]⟩)||decide (s=⟨#[105,102]⟩)||decide (s=⟨#[101,108,115,101]⟩)||decide (s=⟨#[102,111,114]⟩)||decide (s=⟨#[116,111]⟩)||decide (s=⟨#[109,97,120]⟩)||decide (s=⟨#[101,109,105,116]⟩)||decide (s=⟨#[97,98,111,114,116]⟩)||decide (s=⟨#[110,111,116]⟩)||decide (s=⟨#[97,110,100]⟩)||decide (s=⟨#[111,114]⟩)||decide (s=⟨#[105,110,116]⟩)||decide (s=⟨#[115,116,114]⟩)||decide (s=⟨#[98,111,111,108]⟩)||decide (s=⟨#[116,101,120,116]⟩)||decide (s=⟨#[108,101,110]⟩)||decide (s=⟨#[103,101,116,105,110,116]⟩)||decide (s=⟨#[103,101,116,115,116,114]⟩)||decide (s=⟨#[104,97,115]⟩)||decide (s=⟨#[110,111,119]⟩)||decide (s=⟨#[114,97,110,100,111,109]⟩)||decide (s=⟨#[110,111,100,101]⟩)
def kJ(s:na):Bool:=!decide (s=em)&&decide ((s.size:Int)<=16)&&yD (w9 s 0).toNat&&decide ((pV (bl s):Int)=s.size)&&!kw s
def uv(op:Int):Int:=if op<1\/27<op then -1 else if op<=3\/25<=op then 0 else if op=9\/op=18\/20<=op then 1 else 2
def dA(op n:Int)(s:na)(k:Nat)(d:Int):Int :=
 if uv op<0\/(op≠1/\n≠0)\/(op≠2/\op≠3/\s≠em)then 1
 else if op=3/\kJ s=false then 7
 else if (op=1/\n<0)\/(op=2/\tv s=false)\/(k:Int)≠uv op then 1
 else if 12<d then 2 else 0
mutual
def te:Ex->Nat->Int
 | .mk op n s args,d=>if dA op n s args.length d=0 then dC args (d+1)else dA op n s args.length d
def dC:List Ex->Nat->Int
 | [],_=>0
 |e::l,d=>if te e d=0 then dC l d else te e d
end
theorem yL(e:Ex)(d:Nat):te e d=if dA e.op e.n e.s e.args.length d=0 then dC e.args (d+1)else dA e.op e.n e.s e.args.length d:=by
 cases e with
 |mk o n s a=>rw[te];rfl
theorem Ex.arg_lt{e x:Ex}(h:x∈e.args):SizeOf.sizeOf x<SizeOf.sizeOf e:=by
 cases e with
 |mk o n s a =>
  have:=km (show x∈a from h);simp only[Ex.mk.sizeOf_spec];omega
structure Uses where
 name:Bool
 a:Bool
 b:Bool
 max:Bool
 body:Bool
 other:Bool
def Uses.c(u:Uses):List V:=[Bo u.name,Bo u.a,Bo u.b,Bo u.max,Bo u.body,Bo u.other]
attribute [go_sem] Uses.c
def vz(op:Int):Uses×Bool :=
 if op=1\/op=2 then(⟨true,true,false,false,false,false⟩,true)
 else if op=3 then(⟨false,true,true,false,false,false⟩,true)
 else if op=4\/op=7 then(⟨false,true,false,false,false,false⟩,true)
 else if op=5 then(⟨false,true,false,false,true,true⟩,true)
 else if op=6 then(⟨true,true,true,true,true,false⟩,true)
 else if op=8 then(⟨false,false,false,true,false,false⟩,true)
 else(⟨false,false,false,false,false,false⟩,false)
def kP(e:Ex):Bool:=decide (e.op=0)&&decide (e.n=0)&&decide (e.s=em)&&decide (e.args.length=0)
def fG(s:St)(u:Uses):Bool :=
 !((!u.name&&!decide (s.name=em))||(!u.a&&!kP s.a)||(!u.b&&!kP s.b)||(!u.max&&!decide (s.max=0))||(!u.body&&decide (0<s.body.length))||(!u.other&&decide (0<s.els.length))) &&
 (if s.op=6 then decide (1<=s.max)&&decide (s.max<=16)else if s.op=8 then decide (0<=s.max)&&decide (s.max<=999)else true)
def bW(s:St)(d:Int):Int :=
 let u:=(vz s.op).1
 if (vz s.op).2=false\/fG s u=false then 1
 else if u.name=true/\kJ s.name=false then 7
 else if u.a=true/\te s.a 1≠0 then te s.a 1
 else if u.b=true/\te s.b 1≠0 then te s.b 1
 else if 12<d then 2 else 0
def rV:List Param->List Param->Int
 |_,[]=>0
 |qf,p::l=>if kJ p.name=false then 7 else if p.ty<1\/3<p.ty then 10 else if ut (λq=>decide (q.name=p.name)) qf then 8 else rV (qf++[p]) l
def tM(l:List Param):Int:=if 6<l.length then 2 else rV [] l
theorem Z8{s:na}{p:Nat}(h:p<s.size)(hb:(w9 s p).toNat<128):Utf8.decode s p=((w9 s p).toNat,1):=by
 have e:s.get! p=w9 s p:=by exact Qdk
 unfold Utf8.decode;simp only[jt,e];rw[gh hb]
def Ub{s:na}{p:Nat}(h:p<s.size)(hb:¬(w9 s p).toNat<128):128<=(Utf8.decode s p).1:=by
 have e:s.get! p=w9 s p:=by exact Qdk
 unfold Utf8.decode;simp only[jt,e];rw[gg hb];split
 .split
  .assumption
  simp[Utf8.runeError]
 split
 .split
  .grind
  simp[Utf8.runeError]
 split
 .split
  .grind
  simp[Utf8.runeError]
 simp[Utf8.runeError]
mutual
def oS:Ex->Nat->Nat
 | .mk _ _ _ args,left=>if left=0 then 0 else tF args (left - 1)
def tF:List Ex->Nat->Nat
 | [],n=>n
 |e::l,n=>tF l (oS e n)
end
theorem GY(e:Ex)(n:Nat):oS e n=if n=0 then 0 else tF e.args (n - 1):=by
 cases e with
 |mk o k s a=>rw[oS];rfl
mutual
theorem Gu:∀(e:Ex) (n:Nat),oS e n<=n
 | .mk _ _ _ args,n=>by
  rw[oS];split
  .omega
  have:=Fg args (n - 1);omega
theorem Fg:∀(l:List Ex) (n:Nat),tF l n<=n
 | [],n=>by rw[tF];omega
 |e::l,n=>by rw[tF];have:=Fg l (oS e n);have:=Gu e n;omega
end
theorem qr9(e:Ex){n:Nat}(h:n≠0):oS e n<n:=by grind[GY,Fg]
section
variable {σ:Type} (fS:σ->St->Nat->σ) (fR:σ->Ex->σ)
def wa(e:Ex)(x:Nat×σ):Nat×σ:=if x.1=0\/kP e=true then x else(oS e x.1,fR x.2 e)
mutual
def aZ:St->Nat->Nat×σ->Nat×σ
 | .mk _ _ _ a b body els,d,x=>tn els (d+1) (tn body (d+1) (wa fR b (wa fR a x)))
def tn:List St->Nat->Nat×σ->Nat×σ
 | [],_,x=>x
 |s::l,d,x=>if x.1=0 then x else tn l d (aZ s d (x.1 - 1,fS x.2 s d))
end
theorem TA(s:St)(d:Nat)(x:Nat×σ):aZ fS fR s d x=tn fS fR s.els (d+1) (tn fS fR s.body (d+1) (wa fR s.b (wa fR s.a x))):=by cases s;rw[aZ];rfl
theorem Kl(e:Ex)(x:Nat×σ):(wa fR e x).1<=x.1:=by grind[wa,Gu]
mutual
theorem Xu:∀(s:St) (d:Nat) (x:Nat×σ),(aZ fS fR s d x).1<=x.1
 | .mk _ _ _ a b body els,d,x=>by rw[aZ];have O:=wE els (d+1) (tn fS fR body (d+1) (wa fR b (wa fR a x)));have U:=wE body (d+1) (wa fR b (wa fR a x));grind[Kl]
theorem wE:∀(l:List St) (d:Nat) (x:Nat×σ),(tn fS fR l d x).1<=x.1
 | [],d,x=>by rw[tn];omega
 |s::l,d,x=>by
  rw[tn];split
  .omega
  have O:=wE l d (aZ fS fR s d (x.1 - 1,fS x.2 s d));have U:=Xu s d (x.1 - 1,fS x.2 s d);omega
end
section
variable (K:σ->Nat) (hS:∀s t d,K (fS s t d)<=K s+1) (hR:∀s e,K (fR s e)<=K s+1)
include hR in
theorem E9(e:Ex)(x:Nat×σ):K (wa fR e x).2+(wa fR e x).1<=K x.2+x.1:=by
 unfold wa;split
 .omega
 rename_i h;have L:x.1≠0:=λO=>h (.inl O);have O:=qr9 e L;grind
include hS hR in
mutual
theorem qpi:∀(s:St) (d:Nat) (x:Nat×σ),K (aZ fS fR s d x).2+(aZ fS fR s d x).1<=K x.2+x.1
 | .mk _ _ _ a b body els,d,x=>by rw[aZ];have O:=Bg els (d+1) (tn fS fR body (d+1) (wa fR b (wa fR a x)));have U:=Bg body (d+1) (wa fR b (wa fR a x));have h3:=E9 fR K hR b (wa fR a x);have h4:=E9 fR K hR a x;omega
theorem Bg:∀(l:List St) (d:Nat) (x:Nat×σ),K (tn fS fR l d x).2+(tn fS fR l d x).1<=K x.2+x.1
 | [],d,x=>by rw[tn];omega
 |s::l,d,x=>by
  rw[tn];split
  .omega
  have O:=Bg l d (aZ fS fR s d (x.1 - 1,fS x.2 s d));have U:=qpi s d (x.1 - 1,fS x.2 s d);grind
end
end
end
theorem St.body_le(s:St):SizeOf.sizeOf s.body<SizeOf.sizeOf s:=by cases s;simp only[St.mk.sizeOf_spec,St.body];omega
theorem St.els_le(s:St):SizeOf.sizeOf s.els<SizeOf.sizeOf s:=by cases s;simp only[St.mk.sizeOf_spec,St.els];omega
structure WH{σ:Type}(P:Program)(w:Nat)(fs fr:FuncId)(cs cr:List V)(H:Nat->σ->mz)(fS:σ->St->Nat->σ)(fR:σ->Ex->σ)(n0:Nat)(K:σ->Nat)(PA:Nat):Prop where
 len:∀left s,(H left s).length=n0
 lt:w<n0
 look:∀(left:Nat) s,(H left s)[w]?=some (.cells [I left,.fn (.func fs) [] cs,.fn (.func fr) [] cr])
 set:∀(left AG:Nat) s,(H left s).set w (.cells [I AG,.fn (.func fs) [] cs,.fn (.func fr) [] cr])=H AG s
 und:∀left s,hUnder n0 (H left s)=true
 ncs:∀h,qu h cs=cs
 ncr:∀h,qu h cr=cr
 hS:∀s t d,K (fS s t d)<=K s+1
 hR:∀s e,K (fR s e)<=K s+1
 stmt:∀left s h0 (t:St) (d:Nat),K s+left+1<=PA->ACalls P fs ([.agg t.x,I d]++cs) (H left s++h0) λr Y=>r=.ret (.tuple [])/\Y=H left (fS s t d)++h0
 root:∀left s h0 (e:Ex),K s+left<=PA->left≠0->ACalls P fr ([.agg e.x]++cr) (H left s++h0) λr Y=>r=.ret (.tuple [])/\Y=H left (fR s e)++h0
theorem WH.w'{σ:Type}{P:Program}{w:Nat}{fs fr:FuncId}{cs cr:List V}{H:Nat->σ->mz}{fS:σ->St->Nat->σ}{fR:σ->Ex->σ}{n0:Nat}{K:σ->Nat}{PA:Nat}(ae:WH P w fs fr cs cr H fS fR n0 K PA)(left:Nat)(s:σ)(l:mz) :
  (H left s++l)[w]?=some (.cells [I left,.fn (.func fs) [] cs,.fn (.func fr) [] cr]):=by
 rw[gu (by rw[ae.len];exact ae.lt)];exact ae.look left s
theorem WH.set'{σ:Type}{P:Program}{w:Nat}{fs fr:FuncId}{cs cr:List V}{H:Nat->σ->mz}{fS:σ->St->Nat->σ}{fR:σ->Ex->σ}{n0:Nat}{K:σ->Nat}{PA:Nat}(ae:WH P w fs fr cs cr H fS fR n0 K PA)(left AG:Nat)(s:σ)(l:mz) :
  (H left s++l).set w (.cells [I AG,.fn (.func fs) [] cs,.fn (.func fr) [] cr])=H AG s++l:=by
 rw[jw _ _ (by rw[ae.len];exact ae.lt),ae.set]
section
variable {σ:Type} {P:Program} {w:Nat} {fs fr:FuncId} {cs cr:List V} {H:Nat->σ->mz} {fS:σ->St->Nat->σ} {fR:σ->Ex->σ} {n0:Nat} {K:σ->Nat} {PA:Nat}
theorem WH.und'(ae:WH P w fs fr cs cr H fS fR n0 K PA)(left:Nat)(s:σ):hUnder (H left s).length (H left s)=true:=by rw[ae.len];exact ae.und left s
theorem WH.ext(ae:WH P w fs fr cs cr H fS fR n0 K PA)(h0:mz)(hL:hUnder (n0+h0.length) h0=true):WH P w fs fr cs cr (λleft s=>H left s++h0) fS fR (n0+h0.length) K PA where
 len:=λleft s=>by rw[it,ae.len]
 lt:=by have:=ae.lt;omega
 look:=λleft s=>ae.w' left s h0
 set:=λleft AG s=>ae.set' left AG s h0
 und:=λleft s=>by rw[xh,aQ J (ae.und left s),hL];rfl
 ncs:=ae.ncs
 ncr:=ae.ncr
 hS:=ae.hS
 hR:=ae.hR
 stmt:=λleft s L' t d hk=>by simpa[jf]using ae.stmt left s (h0++L') t d hk
 root:=λleft s L' e hk L=>by simpa[jf]using ae.root left s (h0++L') e hk L
theorem WH.loc0(ae:WH P w fs fr cs cr H fS fR n0 K PA)(left:Nat)(s:σ)(x:AObj)(l:mz):(H left s++x::l)[n0]?=some x:=by rw[gz qhc,ae.len,kh];rfl
theorem WH.loc1(ae:WH P w fs fr cs cr H fS fR n0 K PA)(left:Nat)(s:σ)(x y:AObj)(l:mz):(H left s++x::y::l)[n0+1]?=some y:=by rw[gz qhc,ae.len,show n0+1 - n0=1 by omega];rfl
theorem WH.set0(ae:WH P w fs fr cs cr H fS fR n0 K PA)(left:Nat)(s:σ)(x y:AObj)(l:mz):(H left s++x::l).set n0 y=H left s++y::l:=by rw[ku _ _ qhc,ae.len,kh];rfl
theorem WH.set1(ae:WH P w fs fr cs cr H fS fR n0 K PA)(left:Nat)(s:σ)(x y hI:AObj)(l:mz):(H left s++x::y::l).set (n0+1) hI=H left s++x::hI::l:=by rw[ku _ _ qhc,ae.len,show n0+1 - n0=1 by omega];rfl
end
structure CB{σ:Type}(P:Program)(fs fr:FuncId)(cs cr:List V)(H:σ->mz)(fS:σ->St->Nat->σ)(fR:σ->Ex->σ)(n0:Nat)(K:σ->Nat)(PA:Nat):Prop where
 len:∀s,(H s).length=n0
 und:∀s,hUnder n0 (H s)=true
 ucs:q9 n0 cs=true
 ucr:q9 n0 cr=true
 ncs:∀h,qu h cs=cs
 ncr:∀h,qu h cr=cr
 hS:∀s t d,K (fS s t d)<=K s+1
 hR:∀s e,K (fR s e)<=K s+1
 stmt:∀s h0 (t:St) (d:Nat),K s+1<=PA->ACalls P fs ([.agg t.x,I d]++cs) (H s++h0) λr Y=>r=.ret (.tuple [])/\Y=H (fS s t d)++h0
 root:∀s h0 (e:Ex),K s+1<=PA->ACalls P fr ([.agg e.x]++cr) (H s++h0) λr Y=>r=.ret (.tuple [])/\Y=H (fR s e)++h0
theorem CB.walk{σ:Type}{P:Program}{fs fr:FuncId}{cs cr:List V}{H:σ->mz}{fS:σ->St->Nat->σ}{fR:σ->Ex->σ}{n0:Nat}{K:σ->Nat}{PA:Nat}(hN:CB P fs fr cs cr H fS fR n0 K PA)(o:AObj)(ho:o.under n0=true) :
  WH P (n0+1) fs fr cs cr (λleft s=>H s++[o,.cells [I left,.fn (.func fs) [] cs,.fn (.func fr) [] cr]]) fS fR (n0+2) K PA where
 len:=λleft s=>by simp[hN.len]
 lt:=J
 look:=λleft s=>by rw[gz qhd,hN.len,show n0+1 - n0=1 by omega];rfl
 set:=λleft AG s=>by rw[ku _ _ qhd,hN.len,show n0+1 - n0=1 by omega];rfl
 und:=λleft s=>by have O:hUnder (n0+2) [o]=true:=aQ (n:=n0) J (by simp[hUnder,ho]);have U:=pC (show n0<=n0+2 by omega) cs hN.ucs;have h3:=pC (show n0<=n0+2 by omega) cr hN.ucr;rw[xh,aQ J (hN.und s),jb];simp only[hUnder,kg]at O;simp only[hUnder,O,jb,kg];show q9 _ _=true;grind[q9,V.under]
 ncs:=hN.ncs
 ncr:=hN.ncr
 hS:=hN.hS
 hR:=hN.hR
 stmt:=λleft s h0 t d hk=>by simpa[jf]using hN.stmt s ([o,.cells [I left,.fn (.func fs) [] cs,.fn (.func fr) [] cr]]++h0) t d J
 root:=λleft s h0 e hk L=>by simpa[jf]using hN.root s ([o,.cells [I left,.fn (.func fs) [] cs,.fn (.func fr) [] cr]]++h0) e J
def cQ(d0:Int)(t:St)(d:Nat):Int:=if d0=0 then bW t d else d0
def tz{σ:Type}(s:σ)(_:Ex):σ:=s
def eR{σ:Type}(s:σ)(_:St)(_:Nat):σ:=s
def zo(p:Proc):Int :=
 if kJ p.name=false then 7
 else if tM p.params≠0 then tM p.params
 else
  let x:=tn cQ tz p.body 1 (401,(0:Int))
  if x.2=0/\x.1=0 then 2 else x.2
def bC(l:List na)(t:St)(_:Nat):List na:=if t.op=1\/t.op=6 then l++[t.name]else l
def gC(p:Proc):List na:=(tn bC tz p.body 1 (401,p.params.map (·.name))).2
def mM(l:List Ex)(e:Ex):List Ex:=l++[e]
def yt(p:Proc):List Ex:=(tn eR mM p.body 1 (401,[])).2
theorem Sm(l:List na)(t:St)(d:Nat):(bC l t d).length<=l.length+1:=by grind[bC]
section
variable{α:Type}
def ux(op:Int):Int×Int :=
 if op=1\/op=25\/op=26\/op=27\/op=4\/op=5\/op=6\/op=7\/op=8\/op=9 then(1,1)
 else if op=2\/op=19\/op=23 then(2,2)
 else if op=16\/op=17\/op=18 then(3,3)
 else if op=20 then(1,2)
 else if op=21\/op=22 then(2,1)
 else(2,3)
def F8(op ty:Int):Bool:=!decide (ty=3)||decide (op=10)||decide (op=11)
def uP(op:Int):Bool:=decide (op=25)||decide (op=26)||decide (op=27)
abbrev p9(n:Int):Int:=IntKind.i64.wrap n
def eF(a:Int):Int×Int:=if a = -9223372036854775808 then(0,3)else(p9 (-a),0)
def sQ(a b:Int):Int×Int:=if (0<b/\p9 (a+b)<a)\/(b<0/\a<p9 (a+b))then(0,3)else(p9 (a+b),0)
def aE(a b:Int):Int×Int:=if (0<b/\a<p9 (a - b))\/(b<0/\p9 (a - b)<a)then(0,3)else(p9 (a - b),0)
def kF(a b:Int):Int×Int :=
 if a=0\/b=0 then(0,0)else if a = -1 then eF b else if b = -1 then eF a
 else if p9 ((p9 (a * b)).tdiv b)≠a then(0,3)else(p9 (a * b),0)
def mY(a b:Int):Int×Int :=
 if b=0 then(0,4)else if b = -1 then eF a
 else if a.tmod b≠0/\decide (a<0)≠decide (b<0)then(p9 (p9 (a.tdiv b) - 1),0)else(p9 (a.tdiv b),0)
def kU(a b:Int):Int×Int :=
 if b=0 then(0,4)else if b = -1 then(0,0)
 else if a.tmod b≠0/\decide (a.tmod b<0)≠decide (b<0)then(p9 (a.tmod b+b),0)else(a.tmod b,0)
def wQ(a b:Int):Int:=if a<b then -1 else if b<a then 1 else 0
def yC(a b:na):Int:=Go.Lib.compareBytes a.data.toList b.data.toList
def nP(u v:AV):Int:=if u.k≠v.k then wQ u.k v.k else if u.n=v.n then yC u.s v.s else wQ u.n v.n
def s9{α:Type}(f:α->V)(l:List (na×α)):List (V×V):=yf (l.map λp=>(p.1,f p.2))
def pb{α:Type}:List (na×α)->na->Option α
 | [],_=>none
 |p::l,s=>if p.1=s then some p.2 else pb l s
def qc{α:Type}:List (na×α)->na->α->List (na×α)
 | [],s,v=>[(s,v)]
 |p::l,s,v=>if p.1=s then(s,v)::l else p::qc l s v
def oK{α:Type}:List (na×α)->na->List (na×α)
 | [],_=>[]
 |p::l,s=>if p.1=s then l else p::oK l s
@[simp] theorem qvs(f:α->V)(l:List (na×α)):yY (s9 f l)=some (l.map λp=>(p.1,f p.2)):=by
 induction l with
 |nil=>rfl
 |cons p l ih =>
  simp only[s9,yf,jd,yY]at ih|-;rw[ih];rfl
@[simp] theorem qs4(f:α->V)(l:List (na×α))(s:na):wH (l.map λp=>(p.1,f p.2)) s=(pb l s).map f:=by
 induction l with
 |nil=>rfl
 |cons p l ih =>
  simp only[jd,wH,pb,ih];split<;>rfl
@[simp] theorem Qy(f:α->V)(l:List (na×α))(s:na)(v:α):yf (wT (l.map λp=>(p.1,f p.2)) s (f v))=s9 f (qc l s v):=by
 rw[s9];congr 1
 induction l with
 |nil=>rfl
 |cons p l ih =>
  simp only[jd,wT,qc,ih];split<;>rfl
@[simp] theorem qvn(f:α->V)(l:List (na×α))(s:na):yf (Au (l.map λp=>(p.1,f p.2)) s)=s9 f (oK l s):=by
 rw[s9];congr 1
 induction l with
 |nil=>rfl
 |cons p l ih =>
  simp only[jd,Au,oK,ih];split<;>rfl
def dH:Option Int->Int×Int
 |none=>(0,11)
 |some ty=>if ty<1\/3<ty then(0,10)else(ty,0)
end
mutual
def ofE(vars:List (na×Int)):Ex->Int×Int
 | .mk op _ s args =>
  if op=3 then dH (pb vars s)
  else match bB vars args with
   |(e,tys) =>
    if e≠0 then(0,e)
    else if 10<=op/\op<=15 then(if tys.getD 0 0≠tys.getD 1 0\/F8 op (tys.getD 0 0)=false then(0,10)else(3,0))
    else if tys.all (λt=>decide (t=(ux op).1))then((ux op).2,0)else(0,10)
def bB(vars:List (na×Int)):List Ex->Int×List Int
 | []=>(0,[])
 |e::l=>if (ofE vars e).2≠0 then((ofE vars e).2,[])else((bB vars l).1,(ofE vars e).1::(bB vars l).2)
end
theorem xC(vars:List (na×Int))(e:Ex):ofE vars e =
  if e.op=3 then dH (pb vars e.s)
  else if (bB vars e.args).1≠0 then(0,(bB vars e.args).1)
  else if 10<=e.op/\e.op<=15 then(if (bB vars e.args).2.getD 0 0≠(bB vars e.args).2.getD 1 0\/F8 e.op ((bB vars e.args).2.getD 0 0)=false then(0,10)else(3,0))
  else if (bB vars e.args).2.all (λt=>decide (t=(ux e.op).1))then((ux e.op).2,0)else(0,10):=by
 cases e with
 |mk o n s a=>rw[ofE];rfl
theorem Vr{l:List Ex}{d:Nat}(h:dC l d=0):∀x∈l,te x d=0:=by
 induction l with
 |nil=>simp
 |cons e l ih =>
  rw[dC]at h;split at h
  .grind
  omega
def IZ{e:Ex}{d:Nat}(h:te e d=0):∀x∈e.args,te x (d+1)=0:=by grind[yL,Vr]
def Ad{e:Ex}{d:Nat}(h:te e d=0):(e.args.length:Int)=uv e.op:=by grind[yL,dA]
section
structure TS where
 visible:List (na×Int)
 loops:List (na×Bool)
 all:List (na×Int)
def TS.decl(s:TS)(name:na)(ty:Int):TS:=⟨qc s.visible name ty,s.loops,qc s.all name ty⟩
def sf(vis:List (na×Int))(t:St):Int×Int×Int :=
 if t.op=8 then(0,0,0)
 else if (ofE vis t.a).2=0/\(t.op=3\/t.op=6)then((ofE vis t.a).1,(ofE vis t.b).1,(ofE vis t.b).2)
 else((ofE vis t.a).1,0,(ofE vis t.a).2)
def rN(l:List St)(vis:List (na×Int)):List (na×Int) :=
 match l with
 | []=>vis
 |s::l=>rN l (if s.op=1 then oK vis s.name else vis)
def aC:St->Nat->Prop
 | .mk op name mx a b body els,d=>bW (.mk op name mx a b body els) d=0/\(∀x∈body.attach,aC x.1 (d+1))/\(∀x∈els.attach,aC x.1 (d+1))
termination_by s=>SizeOf.sizeOf s
decreasing_by
 all_goals
  exact Qdl
def eZ(l:List St)(d:Nat):Prop:=∀s∈l,aC s d
theorem dZ(s:St)(d:Nat):aC s d↔bW s d=0/\eZ s.body (d+1)/\eZ s.els (d+1):=by
 cases s with
 |mk op name mx a b body els =>
  rw[aC];simp[eZ,St.body,St.els]
def Wp{e:Int}{t:St}{d:Nat}(h:cQ e t d=0):e=0/\bW t d=0:=by grind[cQ]
theorem Hl{σ:Type}(e:Ex)(x:Nat×σ):(wa tz e x).2=x.2:=by grind[wa,tz]
mutual
theorem Wr:∀(s:St) (d:Nat) (x:Nat×Int),(aZ cQ tz s d x).2=0->(aZ cQ tz s d x).1≠0->x.2=0/\eZ s.body (d+1)/\eZ s.els (d+1)
 | .mk _ _ _ a b body els,d,x,L,O=>by rw[aZ]at L O;have U:=Gf els (d+1) _ L O;have hl:=wE cQ tz els (d+1) (tn cQ tz body (d+1) (wa tz b (wa tz a x)));have h3:=Gf body (d+1) _ U.1 J;rw[Hl,Hl]at h3;exact⟨h3.1,h3.2,U.2⟩
theorem Gf:∀(l:List St) (d:Nat) (x:Nat×Int),(tn cQ tz l d x).2=0->(tn cQ tz l d x).1≠0->x.2=0/\eZ l d
 | [],d,x,L,O=>by grind[tn,eZ]
 |s::l,d,x,L,O=>by
  rw[tn]at L O;split at L
  .grind
  rename_i hz;rw[gg hz]at O;have U:=Gf l d _ L O;have hl:=wE cQ tz l d (aZ cQ tz s d (x.1 - 1,cQ x.2 s d));have h3:=Wr s d _ U.1 J;have h4:=Wp h3.1;refine⟨h4.1,λy hy=>?_⟩;rcases iq.1 hy with rfl|hy
  .grind[dZ]
  exact U.2 y hy
end
theorem CC{p:Proc}(h:zo p=0):eZ p.body 1:=by
 unfold zo at h;split at h
 .omega
 split at h
 .omega
 simp only at h;split at h
 .omega
 rename_i O;simp only[not_and]at O;exact(Gf p.body 1 (401,0) h (O h)).2
theorem Mt{t:St}{d:Nat}(h:bW t d=0)(ho:(vz t.op).1.a=true):te t.a 1=0:=fp
theorem Rv{t:St}{d:Nat}(h:bW t d=0)(ho:(vz t.op).1.b=true):te t.b 1=0:=fp
structure TH(c a b d:Nat)(H:TS->mz)(n0:Nat):Prop where
 len:∀s,(H s).length=n0
 hc:c<n0
 ha:a<n0
 hb:b<n0
 hd:d<n0
 lc:∀s,(H s)[c]?=some (.cells [.mapr a,.mapr b,.mapr d])
 la:∀s,(H s)[a]?=some (.map (s9 I s.visible))
 lb:∀s,(H s)[b]?=some (.map (s9 Bo s.loops))
 ld:∀s,(H s)[d]?=some (.map (s9 I s.all))
 sa:∀s v,(H s).set a (.map (s9 I v))=H ⟨v,s.loops,s.all⟩
 sb:∀s v,(H s).set b (.map (s9 Bo v))=H ⟨s.visible,v,s.all⟩
 sd:∀s v,(H s).set d (.map (s9 I v))=H ⟨s.visible,s.loops,v⟩
 und:∀s,hUnder n0 (H s)=true
section
variable {c a b d:Nat} {H:TS->mz} {n0:Nat}
theorem TH.gl(T:TH c a b d H n0){i:Nat}(hi:i<n0)(s:TS)(l:mz):(H s++l)[i]?=(H s)[i]?:=gu (by rw[T.len];exact hi)
theorem TH.lc'(T:TH c a b d H n0)(s:TS)(l:mz):(H s++l)[c]?=some (.cells [.mapr a,.mapr b,.mapr d]):=by rw[T.gl T.hc,T.lc]
theorem TH.la'(T:TH c a b d H n0)(s:TS)(l:mz):(H s++l)[a]?=some (.map (s9 I s.visible)):=by rw[T.gl T.ha,T.la]
theorem TH.lb'(T:TH c a b d H n0)(s:TS)(l:mz):(H s++l)[b]?=some (.map (s9 Bo s.loops)):=by rw[T.gl T.hb,T.lb]
def TH.ld'(T:TH c a b d H n0)(s:TS)(l:mz):(H s++l)[d]?=some (.map (s9 I s.all)):=by rw[T.gl T.hd,T.ld]
theorem TH.sa'(T:TH c a b d H n0)(s:TS)(v:List (na×Int))(l:mz):(H s++l).set a (.map (s9 I v))=H ⟨v,s.loops,s.all⟩++l:=by rw[jw _ _ (by rw[T.len];exact T.ha),T.sa]
theorem TH.sb'(T:TH c a b d H n0)(s:TS)(v:List (na×Bool))(l:mz):(H s++l).set b (.map (s9 Bo v))=H ⟨s.visible,v,s.all⟩++l:=by rw[jw _ _ (by rw[T.len];exact T.hb),T.sb]
def TH.sd'(T:TH c a b d H n0)(s:TS)(v:List (na×Int))(l:mz):(H s++l).set d (.map (s9 I v))=H ⟨s.visible,s.loops,v⟩++l:=by rw[jw _ _ (by rw[T.len];exact T.hd),T.sd]
theorem TH.und'(T:TH c a b d H n0)(s:TS):hUnder (H s).length (H s)=true:=by rw[T.len];exact T.und s
theorem TH.ext(T:TH c a b d H n0)(h0:mz)(hL:hUnder (n0+h0.length) h0=true):TH c a b d (λs=>H s++h0) (n0+h0.length) where
 len:=λs=>by rw[it,T.len]
 hc:=by have:=T.hc;omega
 ha:=by have:=T.ha;omega
 hb:=by have:=T.hb;omega
 hd:=by have:=T.hd;omega
 lc:=λs=>T.lc' s h0
 la:=λs=>T.la' s h0
 lb:=λs=>T.lb' s h0
 ld:=λs=>T.ld' s h0
 sa:=λs v=>T.sa' s v h0
 sb:=λs v=>T.sb' s v h0
 sd:=λs v=>T.sd' s v h0
 und:=λs=>by rw[xh,aQ J (T.und s),hL];rfl
end
end
@[simp] theorem qw2:mL (.map none)=.val (.map none):=rfl
theorem OV{α:Type}{f:α->V}{l:List (na×α)}{a b:V}(h:(a,b)∈s9 f l):∃s x,a=my s/\b=f x:=by grind[s9,yf,qio,Prod.mk.injEq]
theorem F2{α:Type}{f:α->V}(hf:∀(n:Nat) (a:α),(f a).under n=true)(n:Nat)(l:List (na×α)):(AObj.map (s9 f l)).under n=true:=by simp only[AObj.under,jk,gy];rintro⟨a,b⟩ hp;obtain⟨s,x,rfl,rfl⟩:=OV hp;exact⟨rfl,hf n x⟩
theorem BB{t:St}{d:Nat}(h:aC t d)(L:t.op≠8):te t.a 1=0:=by have O:=((dZ t d).1 h).1;refine Mt O ?_;grind[bW,vz]
theorem Bl{t:St}{d:Nat}(h:aC t d)(L:t.op=3\/t.op=6):te t.b 1=0:=by have O:=((dZ t d).1 h).1;grind[vz,Rv]
def wy(l:List St)(f:TS->Int×TS)(s:TS):Int×TS:=if (f s).1≠0 then f s else(0,⟨rN l (f s).2.visible,(f s).2.loops,(f s).2.all⟩)
def uC(t:St)(hN E:TS->Int×TS)(s:TS):Int×TS :=
 if (sf s.visible t).2.2≠0 then((sf s.visible t).2.2,s)
 else if t.op=1 then(0,s.decl t.name (sf s.visible t).1)
 else if t.op=2 then
  match pb s.visible t.name with
  |none=>(11,s)
  |some ty=>(if pb s.loops t.name=some true then 7 else if ty≠(sf s.visible t).1 then 10 else 0,s)
 else if t.op=3 then(if (sf s.visible t).1≠2\/(sf s.visible t).2.1=3 then 10 else 0,s)
 else if t.op=4 then(if (sf s.visible t).1≠2 then 10 else 0,s)
 else if t.op=7 then(if (sf s.visible t).1=3 then 10 else 0,s)
 else if t.op=5 then
  if (sf s.visible t).1≠3 then(10,s)
  else if (wy t.body hN s).1≠0 then wy t.body hN s else wy t.els E (wy t.body hN s).2
 else if t.op=6 then
  if (sf s.visible t).1≠1\/(sf s.visible t).2.1≠1 then(10,s)
  else
   let x:=wy t.body hN ⟨qc s.visible t.name 1,qc s.loops t.name true,qc s.all t.name 1⟩
   (x.1,⟨oK x.2.visible t.name,x.2.loops,x.2.all⟩)
 else(0,s)
mutual
def bY:St->TS->Int×TS
 | .mk op name mx a b body els,s=>uC (.mk op name mx a b body els) (λx=>sw body x) (λx=>sw els x) s
def sw:List St->TS->Int×TS
 | [],s=>(0,s)
 |t::l,s=>if (bY t s).1≠0 then bY t s else sw l (bY t s).2
end
theorem BO(t:St)(s:TS):bY t s=uC t (sw t.body) (sw t.els) s:=by cases t;rw[bY];rfl
abbrev nV(l:List St)(s:TS):Int×TS:=wy l (sw l) s
def vJ:List (na×Bool)->List na->Bool
 |_,[]=>false
 |tC,x::l=>(pb tC x).getD false||vJ (qc tC x true) l
def jA(l:List Param)(s:TS):TS:=l.foldl (λs x=>s.decl x.name x.ty) s
def jK(p:Proc):Int :=
 if zo p≠0 then zo p
 else if p.params.any (λx=>decide (x.ty=3))then 10
 else if vJ [] (gC p)then 8
 else(nV p.body (jA p.params ⟨[],[],[]⟩)).1
def Ah(x:Param)(v:AV):Bool:=(decide (v.k=1)&&decide (v.s=em)&&decide (x.ty=1))||(decide (v.k=2)&&decide (v.n=0)&&tv v.s&&decide (x.ty=2))
def kG:List Param->List AV->Bool
 |x::l,v::r=>Ah x v&&kG l r
 |_,_=>true
def gU(p:Proc)(args:List AV):Int :=
 if jK p≠0\/args.length≠p.params.length then 1 else if kG p.params args then 0 else 10
mutual
def qD:Ex->List Ex
 | .mk op n s args=>.mk op n s args::dI args
def dI:List Ex->List Ex
 | []=>[]
 |e::l=>qD e++dI l
end
theorem Lp(e:Ex):qD e=e::dI e.args:=by cases e;rw[qD];rfl
def Cq:List Ex->Int->Int×Int×Bool
 | [],_=>(0,0,false)
 |e::l,k=>if uP e.op then(e.op,k,true)else Cq l (k+1)
def tI(p:Proc):Int×Int×Bool:=if zo p≠0 then(0,0,false)else Cq (dI (yt p)) 0
def lS(p:Proc):Int:=if jK p≠0 then jK p else if (tI p).2.2 then 12 else 0
structure Cnt where
 st:Int
 ge:Int
 pu:Int
 em:Int
def Cnt.c(x:Cnt):List V:=[I x.st,I x.ge,I x.pu,I x.em]
def mn(a b:Int):Int:=if b<a then b else a
def mx(a b:Int):Int:=if a<b then b else a
theorem oG(a b:Int):(if b<a then b else a)=mn a b:=rfl
theorem Fm(a b:Int):(if a<b then b else a)=mx a b:=rfl
theorem rI:IntKind.i64.wrap 3=3:=ax
theorem sH:IntKind.i64.wrap 4=4:=ax
def Cnt.plus(x y:Cnt):Cnt:=⟨mn (p9 (x.st+y.st)) 16385,mn (p9 (x.ge+y.ge)) 16385,mn (p9 (x.pu+y.pu)) 16385,mn (p9 (x.em+y.em)) 16385⟩
def Cnt.times(x:Cnt)(n:Int):Cnt:=⟨mn (p9 (x.st * n)) 16385,mn (p9 (x.ge * n)) 16385,mn (p9 (x.pu * n)) 16385,mn (p9 (x.em * n)) 16385⟩
def Cnt.larger(x y:Cnt):Cnt:=⟨mx x.st y.st,mx x.ge y.ge,mx x.pu y.pu,mx x.em y.em⟩
mutual
def eM:Ex->Int
 | .mk op _ _ args=>mn (dS args (if op=22\/op=23\/op=24 then 1 else 0)) 16385
def dS:List Ex->Int->Int
 | [],n=>n
 |e::l,n=>dS l (p9 (n+eM e))
end
theorem qmk(e:Ex):eM e=mn (dS e.args (if e.op=22\/e.op=23\/e.op=24 then 1 else 0)) 16385:=by cases e;rw[eM];rfl
def lZ(t:St):Cnt :=
 let g:=if t.op=8 then 0 else eM t.a
 if t.op=3 then⟨1,mn (p9 (g+eM t.b)) 16385,1,0⟩
 else if t.op=4 then⟨1,g,1,0⟩
 else if t.op=7 then⟨1,g,0,1⟩
 else if t.op=6 then⟨p9 (1+t.max),mn (p9 (g+eM t.b)) 16385,0,0⟩
 else⟨1,g,0,0⟩
mutual
def Bi:St->Cnt
 | .mk op name m a b body els =>
  if op=5 then(lZ (.mk op name m a b body els)).plus ((uD body ⟨0,0,0,0⟩).larger (uD els ⟨0,0,0,0⟩))
  else if op=6 then(lZ (.mk op name m a b body els)).plus ((uD body ⟨0,0,0,0⟩).times m)
  else lZ (.mk op name m a b body els)
def uD:List St->Cnt->Cnt
 | [],c=>c
 |t::l,c=>uD l (c.plus (Bi t))
end
abbrev yp(l:List St):Cnt:=uD l ⟨0,0,0,0⟩
theorem PV(t:St):Bi t=if t.op=5 then(lZ t).plus ((yp t.body).larger (yp t.els))else if t.op=6 then(lZ t).plus ((yp t.body).times t.max)else lZ t:=by cases t;rw[Bi];rfl
def aO(p:Proc):Int :=
 if lS p≠0 then lS p
 else if 16384<(yp p.body).st then 13
 else if 64<(yp p.body).ge\/64<(yp p.body).pu\/16<(yp p.body).em then 2
 else 0
structure Stop where
 status:Int
 code:Int
 miss:na
def ab(code:Int):Stop:=⟨2,code,em⟩
def rst(key:na):Stop:=⟨3,0,key⟩
structure MS where
 vars:List (na×AV)
 own:List (na×AV)
 out:List AV
 reads:List na
 puts:List na
 steps:Nat
def MS.nil:MS:=⟨[],[],[],[],[],0⟩
def vI(n:Int):AV:=⟨1,n,em⟩
def vS(s:na):AV:=⟨2,0,s⟩
def vB(b:Bool):AV:=⟨3,if b then 1 else 0,em⟩
abbrev EV:=Except Stop AV
def dR(s:na):EV:=if 64<(s.size:Int)then .error (ab 1006)else .ok (vS s)
def yz(r:Int×Int):EV:=if r.2=0 then .ok (vI r.1)else if r.2=4 then .error (ab 1002)else .error (ab 1001)
def fF(op a b:Int):EV:=if op=4 then yz (sQ a b)else if op=5 then yz (aE a b)else if op=6 then yz (kF a b)else if op=7 then yz (mY a b)else yz (kU a b)
def gI(op c:Int):Bool:=if op=10 then decide (c=0)else if op=11 then !decide (c=0)else if op=12 then decide (c<0)else if op=13 then decide (c<=0)else if op=14 then decide (0<c)else decide (0<=c)
def wR(op:Int)(a b:AV):EV:=if a.k=b.k/\(a.k=1\/a.k=2\/(a.k=3/\op<=11))then .ok (vB (gI op (nP a b)))else .error (ab 1009)
def zu(op:Int)(a b:AV):EV :=
 if op=4\/op=5\/op=6\/op=7\/op=8 then(if a.k=1/\b.k=1 then fF op a.n b.n else .error (ab 1009))
 else if op=16 then(if a.k=3/\b.k=3 then .ok (vB (decide (a.n=1)&&decide (b.n=1)))else .error (ab 1009))
 else if op=17 then(if a.k=3/\b.k=3 then .ok (vB (decide (a.n=1)||decide (b.n=1)))else .error (ab 1009))
 else if op=19 then(if a.k=2/\b.k=2 then dR (a.s++b.s)else .error (ab 1009))
 else wR op a b
def ru(k:na):List na->Nat
 | []=>0
 |x::l=>if px x k then ru k l+1 else 0
def zj(l:List na)(k:na):List na:=if l[ru k l]?=some k then l else l.take (ru k l)++k::l.drop (ru k l)
structure Cfg where
 state:List Pr
 all:Bool
 rd:List na
 wr:List na
 fmt:Int->na
section
variable (C:Cfg)
def y4(key:na)(m:MS):EV×MS :=
 if zp key=false then(.error (ab 1004),m)
 else match pb m.own key with
  |some v=>(.ok v,m)
  |none=>if C.all=false/\qa C.rd key=false then(.error (rst key),m)
   else(.ok (pp C.state key),{ m with reads:=zj m.reads key })
def yl(key:na)(v:AV)(m:MS):Except Stop Unit×MS :=
 if zp key=false then(.error (ab 1004),m)
 else if C.all=false/\qa C.wr key=false then(.error (rst key),m)
 else(.ok (),{ m with puts:=zj m.puts key,own:=qc m.own key v })
def bO(v:AV)(m:MS):Except Stop Unit×MS:=if m.out.length=16 then(.error (ab 1007),m)else(.ok (),{ m with out:=m.out++[v] })
def xx(m:MS):Except Stop Unit×MS:=(if 16384<m.steps+1 then .error (ab 1008)else .ok (),{ m with steps:=m.steps+1 })
def dO(op:Int)(v:AV):EV :=
 if op=24 then .ok (vB (!decide (v.k=0)))
 else if op=22/\v.k=0 then .ok (vI 0)
 else if op=23/\v.k=0 then dR em
 else if (op=22/\v.k≠1)\/(op=23/\v.k≠2)then .error (ab 1003)
 else .ok v
def zt(op:Int)(a:AV)(m:MS):EV×MS :=
 if op=9 then(if a.k=1 then yz (eF a.n)else .error (ab 1009),m)
 else if op=18 then(if a.k=3 then .ok (vB (decide (a.n=0)))else .error (ab 1009),m)
 else if op=20 then(if a.k=1 then dR (C.fmt a.n)else .error (ab 1009),m)
 else if op=21 then(if a.k=2 then .ok (vI a.s.size)else .error (ab 1009),m)
 else if a.k≠2 then(.error (ab 1009),m)
 else match y4 C a.s m with
  |(.error hI,m')=>(.error hI,m')
  |(.ok v,m')=>(dO op v,m')
def bG(op:Int)(l:List AV)(m:MS):EV×MS :=
 match l with
 | [a]=>zt C op a m
 | [a,b]=>(zu op a b,m)
 |_=>(.error (ab 1009),m)
mutual
def rp:Ex->MS->EV×MS
 | .mk op n s args,m =>
  if op=1 then(.ok (vI n),m)
  else if op=2 then(.ok (vS s),m)
  else if op=3 then((match pb m.vars s with|some v=>.ok v|none=>.error (ab 1009)),m)
  else match uf args m with
   |(.error hI,m')=>(.error hI,m')
   |(.ok l,m')=>bG C op l m'
def uf:List Ex->MS->Except Stop (List AV)×MS
 | [],m=>(.ok [],m)
 |e::l,m=>match rp e m with
  |(.error hI,m')=>(.error hI,m')
  |(.ok v,m')=>match uf l m' with
   |(.error hI,qy)=>(.error hI,qy)
   |(.ok r,qy)=>(.ok (v::r),qy)
end
theorem Ry(e:Ex)(m:MS):rp C e m=if e.op=1 then(.ok (vI e.n),m)
  else if e.op=2 then(.ok (vS e.s),m)
  else if e.op=3 then((match pb m.vars e.s with|some v=>.ok v|none=>.error (ab 1009)),m)
  else match uf C e.args m with
   |(.error hI,m')=>(.error hI,m')
   |(.ok l,m')=>bG C e.op l m':=by cases e;rw[rp];rfl
def vq(body:MS->Except Stop Unit×MS)(name:na)(b:Int):Nat->Int->MS->Except Stop Unit×MS
 | 0,_,m=>(.ok (),m)
 |f+1,i,m =>
  if i<b then
   match xx m with
   |(.error hI,m')=>(.error hI,m')
   |(.ok _,m')=>match body { m' with vars:=qc m'.vars name (vI i) }with
    |(.error hI,qy)=>(.error hI,qy)
    |(.ok _,qy)=>vq body name b f (p9 (i+1)) qy
  else(.ok (),m)
def vP(a b:Int)(mx:Int):Prop:=a<b/\IntKind.u64.wrap mx<IntKind.u64.wrap (IntKind.u64.wrap b - IntKind.u64.wrap a)
instance (a b mx:Int):Decidable (vP a b mx):=inferInstanceAs (Decidable (_/\_))
mutual
def vj:St->MS->Except Stop Unit×MS
 | .mk op name mx a b body els,m =>
  if op=1\/op=2 then
   match rp C a m with
   |(.error hI,m')=>(.error hI,m')
   |(.ok v,m')=>(.ok (),{ m' with vars:=qc m'.vars name v })
  else if op=3 then
   match rp C a m with
   |(.error hI,m')=>(.error hI,m')
   |(.ok k,m')=>match rp C b m' with
    |(.error hI,qy)=>(.error hI,qy)
    |(.ok v,qy)=>if k.k=2/\(v.k=1\/v.k=2)then yl C k.s v qy else(.error (ab 1009),qy)
  else if op=4 then
   match rp C a m with
   |(.error hI,m')=>(.error hI,m')
   |(.ok k,m')=>if k.k=2 then yl C k.s AV.nil m' else(.error (ab 1009),m')
  else if op=5 then
   match rp C a m with
   |(.error hI,m')=>(.error hI,m')
   |(.ok c,m')=>if c.k=3 then(if c.n=1 then re body m' else re els m')else(.error (ab 1009),m')
  else if op=6 then
   match rp C a m with
   |(.error hI,m')=>(.error hI,m')
   |(.ok u,m')=>match rp C b m' with
    |(.error hI,qy)=>(.error hI,qy)
    |(.ok v,qy) =>
     if u.k=1/\v.k=1 then
      (if vP u.n v.n mx then(.error (ab 1005),qy)else vq (λx=>re body x) name v.n 16386 u.n qy)
     else(.error (ab 1009),qy)
  else if op=7 then
   match rp C a m with
   |(.error hI,m')=>(.error hI,m')
   |(.ok v,m')=>if v.k=1\/v.k=2 then bO v m' else(.error (ab 1009),m')
  else if op=8 then(.error (ab mx),m)
  else(.ok (),m)
def re:List St->MS->Except Stop Unit×MS
 | [],m=>(.ok (),m)
 |t::l,m=>match xx m with
  |(.error hI,m')=>(.error hI,m')
  |(.ok _,m')=>match vj t m' with
   |(.error hI,qy)=>(.error hI,qy)
   |(.ok _,qy)=>re l qy
end
end
def kZ:Except Stop Unit×MS->Eff
 |(.error hI,m)=>⟨hI.status,hI.code,[],m.reads,m.puts,[],hI.miss,m.steps⟩
 |(.ok _,m)=>⟨1,0,m.out,m.reads,m.puts,m.puts.map λk=>⟨k,(pb m.own k).getD AV.nil⟩,em,m.steps⟩
def bI:Eff:=⟨2,1009,[],[],[],[],em,0⟩
def lA:List Param->List AV->List (na×AV)->List (na×AV)
 |x::l,v::r,m=>lA l r (qc m x.name v)
 |_,_,m=>m
def un(fmt:Int->na)(p:Proc)(args:List AV)(st:List Pr)(ft:Foot):Eff :=
 if aO p≠0\/gU p args≠0\/ph st=false\/vi ft.all ft.reads ft.writes=false then bI
 else kZ (re ⟨st,ft.all,ft.reads,ft.writes,fmt⟩ p.body ⟨lA p.params args [],[],[],[],[],0⟩)
def aL(vf:Ex->Bool):List Ex->Nat->Nat×Option Ex
 | [],k=>(k,none)
 |e::l,k=>if vf e then(k,some e)else aL vf l (k+1)
theorem Ow(vf:Ex->Bool):∀(a b:List Ex) (k:Nat),aL vf (a++b) k=match aL vf a k with
  |(k',some e)=>(k',some e)
  |(k',none)=>aL vf b k'
 | [],b,k=>rfl
 |e::a,b,k=>by
  simp only[mb,aL];split
  .rfl
  simp[Ow]
theorem Ty(vf:Ex->Bool)(e:Ex)(k:Nat):aL vf (qD e) k=if vf e then(k,some e)else aL vf (dI e.args) (k+1):=by rw[Lp,aL]
theorem Sd(vf:Ex->Bool)(e:Ex)(l:List Ex)(k:Nat):aL vf (dI (e::l)) k=match aL vf (qD e) k with
  |(k',some x)=>(k',some x)
  |(k',none)=>aL vf (dI l) k':=by
 rw[dI,Ow]
def Ol(l:List Ex):∀k:Nat,Cq l k=match aL (λe=>uP e.op) l k with
  |(k',some e)=>(e.op,(k':Int),true)
  |(_,none)=>(0,0,false):=by
 induction l with
 |nil=>intro k;rfl
 |cons e l ih =>
  intro k;simp only[Cq,aL];by_cases h:uP e.op=true
  .grind
  grind
theorem T3(a:Int):IntKind.i64.wrap (IntKind.i64.wrap a+1)=IntKind.i64.wrap (a+1):=by exact Qdm
section
def i64(n:Int):Prop:=-9223372036854775808<=n/\n<=9223372036854775807
def qoh(n:Int):i64 (IntKind.i64.wrap n):=by simp only[i64,IntKind.wrap,IntKind.bits,IntKind.signed];simp;omega
def r6(v:AV):Prop:=i64 v.n/\v.s.size<=4294967296
def zb:Ex->Prop
 | .mk _ n s args=>(i64 n/\s.size<=4294967296)/\∀x∈args.attach,zb x.1
termination_by e=>SizeOf.sizeOf e
decreasing_by
 have:=km x.2;grind
def xM(e:Ex):zb e↔(i64 e.n/\e.s.size<=4294967296)/\∀x∈e.args,zb x:=by
 cases e with
 |mk op n s args =>
  simp[zb,Ex.n,Ex.s,Ex.args]
def nodes(e:Ex):Nat:=(qD e).length
def lM(l:List Ex):Nat:=(dI l).length
theorem Cm(e:Ex):nodes e=lM e.args+1:=by rw[nodes,Lp];rfl
theorem CP(e:Ex)(l:List Ex):lM (e::l)=nodes e+lM l:=by rw[lM,dI,it];rfl
mutual
theorem Il:∀(e:Ex) (d k:Nat),te e d=0->d+k=13->nodes e+1<=2 ^ k
 | .mk op n s args,d,k,h,hk=>by
  have bJ:=Ad h;rw[yL]at h;split at h
  .rename_i L;have hd:d<=12:=by grind[dA]
   have U:args.length<=2:=by grind[Ex.args,uv]
   have O:=Pd args (d+1) (k - 1) h J;rw[Cm];simp only[Ex.args];have hp:2 ^ k=2 * 2 ^ (k - 1):=by rw[<-Nat.pow_succ'];congr 1;omega
   have hpos:1<=2 ^ (k - 1):=Nat.one_le_two_pow;have h3:args.length=0\/args.length=1\/args.length=2:=J;grind
  omega
theorem Pd:∀(l:List Ex) (d k:Nat),dC l d=0->d+k=13->lM l+l.length<=l.length * 2 ^ k
 | [],d,k,_,_=>by simp[lM,dI]
 |e::l,d,k,h,hk=>by
  rw[dC]at h;split at h
  .rename_i L;have O:=Il e d k L hk;have U:=Pd l d k h hk;rw[CP,jp,Nat.succ_mul];omega
  omega
end
section
variable {P:Program} {E:Ent} {hu:AExit->Env->Prop} {e:Env}
def xS{α:Type}{b:Code}(I:α->Prop)(my:α->Env)(μ:α->Nat)(a0:α)(L:I a0)(hw:Wk E e (my a0))
  (step:∀a,I a->kC P E b (AExit.then (λe'=>∃a',I a'/\μ a'<μ a/\Wk E e' (my a')) hu) (my a)):AWp P E (.loop b) hu e :=
 Jw (ι:=α) (I:=I) (my:=my) (μ:=μ) a0 L hw λa z=>yd _ _ _ (step a z)
end
abbrev qg(l:List na):Prop:=l.Pairwise λa b=>px a b=true
theorem zO(k:na):∀l,ru k l<=l.length
 | []=>gj _
 |x::l=>by
  rw[ru];split
  .simp[zO]
  simp
theorem A9{k:na}:∀{l:List na},qg l->∀(n:Nat) (h:n<l.length),(n<ru k l↔px l[n] k=true)
 | [],_,n,h=>by simp at h
 |x::l,ha,n,h=>by
  obtain⟨O,U⟩:=jy.1 ha;rw[ru];by_cases hx:px x k=true
  .rw[gh hx];cases n with
   |zero=>simp[hx]
   |succ n =>
    have:=A9 (k:=k) U n W;grind
  rw[gg hx];cases n with
  |zero=>simp[hx]
  |succ n =>
   simp only[List.getElem_cons_succ];refine⟨λh=>by omega,λhn=>?_⟩;exact(hx (uK (O _ (ij _)) hn)).elim
theorem ED{l:List na}(ha:qg l)(k:na):qg (zj l k):=by
 unfold zj;split
 .exact ha
 rename_i nv;have nh:=zO k l;refine List.pairwise_append.2 ⟨ha.sublist (List.take_sublist _ _),jy.2 ⟨λb hb=>?_,ha.sublist (qj3 _ _)⟩,λa hA b hb=>?_⟩
 .obtain⟨i,hi,rfl⟩:=qja hb;rw[List.getElem_drop];have qj:ru k l+i<l.length:=W;have hnot:px l[ru k l+i] k=false:=by
   cases h:px l[ru k l+i] k with
   |false=>rfl
   |true=>have:=(A9 ha _ qj).2 h;omega
  cases hki:px k l[ru k l+i]with
  |true=>rfl
  |false =>
   have:=A3 k l[ru k l+i];rw[hki,hnot]at this;simp at this;cases i with
   |zero =>
    grind
   |succ i =>
    have hp:=(qju.1 ha) (ru k l) (ru k l+(i+1)) J qj J;rw[<-this]at hp;have:=(A9 ha (ru k l) J).2 hp;omega
 grind[A9,qju,qja]
def B8(l:List na)(k:na):(zj l k).length<=l.length+1:=by grind[zj,zO]
abbrev aT(v:AV):V:=.agg v.c
@[simp] theorem qu0(l:List (na×AV))(s:na)(x:AV):yf (wT (l.map λp=>(p.1,aT p.2)) s (.agg [I x.k,I x.n,my x.s]))=s9 aT (qc l s x):=Qy aT l s x
structure MQ where
 vars:List (na×AV)
 own:List (na×AV)
 out:List AV
 reads:List na
 puts:List na
 no:Nat
 nr:Nat
 np:Nat
 steps:Int
def MS.q(s:MS):MQ:=⟨s.vars,s.own,s.out,s.reads,s.puts,s.out.length,s.reads.length,s.puts.length,s.steps⟩
@[simp] theorem qs0(s:MS):s.q.vars=s.vars:=rfl
@[simp] theorem qv2(s:MS):s.q.own=s.own:=rfl
@[simp] theorem qwy(s:MS):s.q.out=s.out:=rfl
@[simp] theorem quv(s:MS):s.q.reads=s.reads:=rfl
@[simp] theorem qwj(s:MS):s.q.puts=s.puts:=rfl
@[simp] theorem qt3(s:MS):s.q.no=s.out.length:=rfl
@[simp] theorem qt2(s:MS):s.q.nr=s.reads.length:=rfl
@[simp] theorem qwl(s:MS):s.q.np=s.puts.length:=rfl
@[simp] theorem qwu(s:MS):s.q.steps=s.steps:=rfl
def mC(C:Cfg)(v o io ir ip:Nat)(q:MQ):List V :=
 [.slice (C.state.map Pr.c),Bo C.all,.slice (C.rd.map ny),.slice (C.wr.map ny),.mapr v,.mapr o,I 0,I 0,.own io q.no,.own ir q.nr,.own ip q.np,.nils,my em,I q.steps]
structure MH(C:Cfg)(tb:AObj)(tV tS:Nat)(g m v o io ir ip:Nat)(K:MQ->mz)(n0:Nat):Prop where
 len:∀q,(K q).length=n0
 hg:g<n0
 hm:m<n0
 hv:v<n0
 ho:o<n0
 hio:io<n0
 hir:ir<n0
 hip:ip<n0
 lg:∀q,(K q)[g]?=some tb
 lm:∀q,(K q)[m]?=some (.cells (mC C v o io ir ip q))
 lv:∀q,(K q)[v]?=some (.map (s9 aT q.vars))
 lo:∀q,(K q)[o]?=some (.map (s9 aT q.own))
 lio:∀q,(K q)[io]?=some (.arr tV 3 (q.out.map AV.c))
 lir:∀q,(K q)[ir]?=some (.uarr tS 1 (q.reads.map ny))
 lip:∀q,(K q)[ip]?=some (.uarr tS 1 (q.puts.map ny))
 sm:∀q no nr np (st:Int),(K q).set m (.cells (mC C v o io ir ip ⟨q.vars,q.own,q.out,q.reads,q.puts,no,nr,np,st⟩))=K ⟨q.vars,q.own,q.out,q.reads,q.puts,no,nr,np,st⟩
 sv:∀q x,(K q).set v (.map (s9 aT x))=K ⟨x,q.own,q.out,q.reads,q.puts,q.no,q.nr,q.np,q.steps⟩
 so:∀q x,(K q).set o (.map (s9 aT x))=K ⟨q.vars,x,q.out,q.reads,q.puts,q.no,q.nr,q.np,q.steps⟩
 sio:∀q (x:List AV),(K q).set io (.arr tV 3 (x.map AV.c))=K ⟨q.vars,q.own,x,q.reads,q.puts,q.no,q.nr,q.np,q.steps⟩
 sir:∀q (x:List na),(K q).set ir (.uarr tS 1 (x.map ny))=K ⟨q.vars,q.own,q.out,x,q.puts,q.no,q.nr,q.np,q.steps⟩
 sip:∀q (x:List na),(K q).set ip (.uarr tS 1 (x.map ny))=K ⟨q.vars,q.own,q.out,q.reads,x,q.no,q.nr,q.np,q.steps⟩
 und:∀q,hUnder n0 (K q)=true
section
variable {C:Cfg} {tb:AObj} {tV tS g m v o io ir ip:Nat} {K:MQ->mz} {n0:Nat}
theorem MH.gl(h':MH C tb tV tS g m v o io ir ip K n0){i:Nat}(hi:i<n0)(q:MQ)(l:mz):(K q++l)[i]?=(K q)[i]?:=gu (by rw[h'.len];exact hi)
def MH.lg'(h':MH C tb tV tS g m v o io ir ip K n0)(q:MQ)(l:mz):(K q++l)[g]?=some tb:=by rw[h'.gl h'.hg,h'.lg]
theorem MH.lm'(h':MH C tb tV tS g m v o io ir ip K n0)(q:MQ)(l:mz):(K q++l)[m]?=some (.cells (mC C v o io ir ip q)):=by rw[h'.gl h'.hm,h'.lm]
theorem MH.lv'(h':MH C tb tV tS g m v o io ir ip K n0)(q:MQ)(l:mz):(K q++l)[v]?=some (.map (s9 aT q.vars)):=by rw[h'.gl h'.hv,h'.lv]
theorem MH.lo'(h':MH C tb tV tS g m v o io ir ip K n0)(q:MQ)(l:mz):(K q++l)[o]?=some (.map (s9 aT q.own)):=by rw[h'.gl h'.ho,h'.lo]
theorem MH.lio'(h':MH C tb tV tS g m v o io ir ip K n0)(q:MQ)(l:mz):(K q++l)[io]?=some (.arr tV 3 (q.out.map AV.c)):=by rw[h'.gl h'.hio,h'.lio]
theorem MH.lir'(h':MH C tb tV tS g m v o io ir ip K n0)(q:MQ)(l:mz):(K q++l)[ir]?=some (.uarr tS 1 (q.reads.map ny)):=by rw[h'.gl h'.hir,h'.lir]
theorem MH.lip'(h':MH C tb tV tS g m v o io ir ip K n0)(q:MQ)(l:mz):(K q++l)[ip]?=some (.uarr tS 1 (q.puts.map ny)):=by rw[h'.gl h'.hip,h'.lip]
theorem MH.sl(h':MH C tb tV tS g m v o io ir ip K n0){i:Nat}(hi:i<n0)(q:MQ)(y:AObj)(l:mz):(K q++l).set i y=(K q).set i y++l:=jw _ _ (by rw[h'.len];exact hi)
def MH.sm'(h':MH C tb tV tS g m v o io ir ip K n0)(q:MQ)(no nr np:Nat)(st:Int)(l:mz):(K q++l).set m (.cells (mC C v o io ir ip ⟨q.vars,q.own,q.out,q.reads,q.puts,no,nr,np,st⟩))=K ⟨q.vars,q.own,q.out,q.reads,q.puts,no,nr,np,st⟩++l:=by rw[h'.sl h'.hm,h'.sm]
theorem MH.sv'(h':MH C tb tV tS g m v o io ir ip K n0)(q:MQ)(x:List (na×AV))(l:mz):(K q++l).set v (.map (s9 aT x))=K ⟨x,q.own,q.out,q.reads,q.puts,q.no,q.nr,q.np,q.steps⟩++l:=by rw[h'.sl h'.hv,h'.sv]
theorem MH.so'(h':MH C tb tV tS g m v o io ir ip K n0)(q:MQ)(x:List (na×AV))(l:mz):(K q++l).set o (.map (s9 aT x))=K ⟨q.vars,x,q.out,q.reads,q.puts,q.no,q.nr,q.np,q.steps⟩++l:=by rw[h'.sl h'.ho,h'.so]
theorem MH.sio'(h':MH C tb tV tS g m v o io ir ip K n0)(q:MQ)(x:List AV)(l:mz):(K q++l).set io (.arr tV 3 (x.map AV.c))=K ⟨q.vars,q.own,x,q.reads,q.puts,q.no,q.nr,q.np,q.steps⟩++l:=by rw[h'.sl h'.hio,h'.sio]
theorem MH.sir'(h':MH C tb tV tS g m v o io ir ip K n0)(q:MQ)(x:List na)(l:mz):(K q++l).set ir (.uarr tS 1 (x.map ny))=K ⟨q.vars,q.own,q.out,x,q.puts,q.no,q.nr,q.np,q.steps⟩++l:=by rw[h'.sl h'.hir,h'.sir]
theorem MH.sip'(h':MH C tb tV tS g m v o io ir ip K n0)(q:MQ)(x:List na)(l:mz):(K q++l).set ip (.uarr tS 1 (x.map ny))=K ⟨q.vars,q.own,q.out,q.reads,x,q.no,q.nr,q.np,q.steps⟩++l:=by rw[h'.sl h'.hip,h'.sip]
theorem MH.smx(h':MH C tb tV tS g m v o io ir ip K n0)(q:MQ)(no nr np:Nat)(st:Int):(K q).set m (.cells [.slice (C.state.map Pr.c),Bo C.all,.slice (C.rd.map ny),.slice (C.wr.map ny),.mapr v,.mapr o,I 0,I 0,.own io no,.own ir nr,.own ip np,.nils,my em,I st])=K ⟨q.vars,q.own,q.out,q.reads,q.puts,no,nr,np,st⟩:=h'.sm q no nr np st
theorem MH.smx'(h':MH C tb tV tS g m v o io ir ip K n0)(q:MQ)(no nr np:Nat)(st:Int)(l:mz):(K q++l).set m (.cells [.slice (C.state.map Pr.c),Bo C.all,.slice (C.rd.map ny),.slice (C.wr.map ny),.mapr v,.mapr o,I 0,I 0,.own io no,.own ir nr,.own ip np,.nils,my em,I st])=K ⟨q.vars,q.own,q.out,q.reads,q.puts,no,nr,np,st⟩++l:=h'.sm' q no nr np st l
theorem MH.sioA(h':MH C tb tV tS g m v o io ir ip K n0)(q:MQ)(l0:List AV)(x:AV)(l:mz):(K q++l).set io (.arr tV 3 (l0.map AV.c++[[I x.k,I x.n,my x.s]]))=K ⟨q.vars,q.own,l0++[x],q.reads,q.puts,q.no,q.nr,q.np,q.steps⟩++l:=by rw[<-h'.sio' q (l0++[x]) l,jr];rfl
theorem MH.und'(h':MH C tb tV tS g m v o io ir ip K n0)(q:MQ):hUnder (K q).length (K q)=true:=by rw[h'.len];exact h'.und q
theorem MH.loc(h':MH C tb tV tS g m v o io ir ip K n0)(q:MQ)(x:AObj)(l:mz):(K q++x::l)[n0]?=some x:=by rw[gz dn,h'.len,kh];rfl
theorem MH.loc1(h':MH C tb tV tS g m v o io ir ip K n0)(q:MQ)(x y:AObj)(l:mz):(K q++x::y::l)[n0+1]?=some y:=by rw[gz dn,h'.len,show n0+1 - n0=1 by omega];rfl
theorem MH.loc2(h':MH C tb tV tS g m v o io ir ip K n0)(q:MQ)(x y hI:AObj)(l:mz):(K q++x::y::hI::l)[n0+2]?=some hI:=by rw[gz dn,h'.len,show n0+2 - n0=2 by omega];rfl
theorem MH.loc3(h':MH C tb tV tS g m v o io ir ip K n0)(q:MQ)(x y hI u:AObj)(l:mz):(K q++x::y::hI::u::l)[n0+3]?=some u:=by rw[gz dn,h'.len,show n0+3 - n0=3 by omega];rfl
theorem MH.sloc2(h':MH C tb tV tS g m v o io ir ip K n0)(q:MQ)(x y hI u:AObj)(l:mz):(K q++x::hI::u::l).set (n0+2) y=K q++x::hI::y::l:=by rw[ku _ _ dn,h'.len,show n0+2 - n0=2 by omega];rfl
theorem MH.sloc(h':MH C tb tV tS g m v o io ir ip K n0)(q:MQ)(x y:AObj)(l:mz):(K q++x::l).set n0 y=K q++y::l:=by rw[ku _ _ dn,h'.len,kh];rfl
theorem MH.sloc1(h':MH C tb tV tS g m v o io ir ip K n0)(q:MQ)(x y hI:AObj)(l:mz):(K q++x::hI::l).set (n0+1) y=K q++x::y::l:=by rw[ku _ _ dn,h'.len,show n0+1 - n0=1 by omega];rfl
theorem MH.undA(h':MH C tb tV tS g m v o io ir ip K n0)(q:MQ)(l:mz)(k:Nat):hUnder (n0+k) (K q++l)=hUnder (n0+k) l:=by rw[xh,aQ J (h'.und q)];rfl
theorem MH.ext(h':MH C tb tV tS g m v o io ir ip K n0)(h0:mz)(hL:hUnder (n0+h0.length) h0=true):MH C tb tV tS g m v o io ir ip (λq=>K q++h0) (n0+h0.length) where
 len:=λs=>by rw[it,h'.len]
 hg:=by have:=h'.hg;omega
 hm:=by have:=h'.hm;omega
 hv:=by have:=h'.hv;omega
 ho:=by have:=h'.ho;omega
 hio:=by have:=h'.hio;omega
 hir:=by have:=h'.hir;omega
 hip:=by have:=h'.hip;omega
 lg:=λq=>h'.lg' q h0
 lm:=λq=>h'.lm' q h0
 lv:=λq=>h'.lv' q h0
 lo:=λq=>h'.lo' q h0
 lio:=λq=>h'.lio' q h0
 lir:=λq=>h'.lir' q h0
 lip:=λq=>h'.lip' q h0
 sm:=λq no nr np st=>h'.sm' q no nr np st h0
 sv:=λq x=>h'.sv' q x h0
 so:=λq x=>h'.so' q x h0
 sio:=λq x=>h'.sio' q x h0
 sir:=λq x=>h'.sir' q x h0
 sip:=λq x=>h'.sip' q x h0
 und:=λq=>by rw[xh,aQ J (h'.und q),hL];rfl
end
end
theorem wC(n:Int):i64 (p9 n):=qoh n
theorem HN(a:Int):i64 (eF a).1:=by
 unfold eF;split
 .exact⟨ax,ax⟩
 exact wC _
def qnm{a b:Int}(hb:i64 b):i64 (kU a b).1:=by
 unfold kU;split
 .grind
 split
 .exact⟨ax,ax⟩
 split
 .exact wC _
 rename_i L _ _;have O:(a.tmod b).natAbs=a.natAbs % b.natAbs:=Int.natAbs_tmod a b;have U:a.natAbs % b.natAbs<b.natAbs:=qik _ J;have:=hb.1;have:=hb.2;simp only[i64];omega
def LN{op a b:Int}{v:AV}(hb:i64 b)(h:fF op a b=.ok v):r6 v:=by
 have hx:∀r:Int×Int,i64 r.1->yz r=.ok v->r6 v:=λr G hv=>by
  unfold yz at hv;split at hv
  .cases hv;exact⟨G,by simp[vI,em]⟩
  grind
 unfold fF at h;have hz:i64 0:=⟨ax,ax⟩
 split at h
 .grind[sQ,wC]
 split at h
 .grind[aE,wC]
 split at h
 .grind[kF,HN,wC]
 split at h
 .grind[mY,HN,wC]
 exact hx _ (qnm hb) h
theorem wJ(b:Bool):r6 (vB b):=by cases b<;>exact⟨⟨ax,ax⟩,by simp[vB,em]⟩
def oV{n:Int}(h:i64 n):r6 (vI n):=⟨h,by simp[vI,em]⟩
theorem Ku{s:na}{v:AV}(h:dR s=.ok v):r6 v:=by
 unfold dR at h;split at h
 .cases h
 cases h;exact⟨⟨ed,ed⟩,by simp only[vS];omega⟩
def qpk{op:Int}{a b v:AV}(hb:r6 b)(h:zu op a b=.ok v):r6 v:=by
 unfold zu at h;split at h
 .split at h
  .exact LN hb.1 h
  cases h
 split at h
 .grind[wJ]
 split at h
 .grind[wJ]
 split at h
 .grind[Ku]
 grind[wR,wJ]
def bU(C:Cfg):Prop:=∀p∈C.state,r6 p.v
def nF(s:MS):Prop:=(∀p∈s.vars,r6 p.2)/\∀p∈s.own,r6 p.2
def E2:r6 AV.nil:=⟨⟨ax,ax⟩,by simp[AV.nil]⟩
def Ha{l:List Pr}(h:∀p∈l,r6 p.v)(k:na):r6 (pp l k):=by
 induction l with
 |nil=>exact E2
 |cons p l ih =>
  rw[pp];split
  .grind
  grind
def zK{α:Type}{l:List (na×α)}{k:na}{v:α}(h:pb l k=some v):(k,v)∈l:=by
 induction l with
 |nil=>cases h
 |cons p l ih =>
  rw[pb]at h;split at h
  .grind
  grind
def AY{α:Type}{l:List (na×α)}{k:na}{v:α}{p:na×α}(h:p∈qc l k v):p=(k,v)\/p∈l:=by
 induction l with
 |nil=>simpa[qc]using h
 |cons q l ih =>
  rw[qc]at h;split at h
  .grind
  grind
structure EvOk(s:MS)(n:Nat)(s':MS):Prop where
 eq:s' = { s with reads:=s'.reads }
 asc:qg s'.reads
 len:s'.reads.length<=s.reads.length+n
theorem EvOk.refl{s:MS}(h:qg s.reads)(n:Nat):EvOk s n s:=⟨rfl,h,J⟩
def EvOk.trans{s t u:MS}{n k:Nat}(h:EvOk s n t)(g:EvOk t k u):EvOk s (n+k) u:=by refine⟨?_,g.asc,by have:=h.len;have:=g.len;omega⟩;have O:=h.eq;have U:=g.eq;rw[O]at U;exact U
theorem EvOk.mono{s t:MS}{n k:Nat}(h:EvOk s n t)(hk:n<=k):EvOk s k t:=⟨h.eq,h.asc,by have:=h.len;omega⟩
def EvOk.rng{s t:MS}{n:Nat}(h:EvOk s n t)(G:nF s):nF t:=by rw[h.eq];exact G
theorem EvOk.steps{s t:MS}{n:Nat}(h:EvOk s n t):t.steps=s.steps:=by rw[h.eq]
theorem EvOk.vars{s t:MS}{n:Nat}(h:EvOk s n t):t.vars=s.vars:=by rw[h.eq]
theorem EvOk.out{s t:MS}{n:Nat}(h:EvOk s n t):t.out=s.out:=by rw[h.eq]
theorem EvOk.puts{s t:MS}{n:Nat}(h:EvOk s n t):t.puts=s.puts:=by rw[h.eq]
section
variable {C:Cfg}
def ZB(hC:bU C){s:MS}(hM:nF s)(ha:qg s.reads)(k:na):EvOk s 1 (y4 C k s).2/\∀v,(y4 C k s).1=.ok v->r6 v:=by
 unfold y4;split
 .exact⟨.refl ha _,λv h=>by cases h⟩
 split
 .rename_i w hw;exact⟨.refl ha _,λv h=>by cases h;exact hM.2 _ (zK hw)⟩
 split
 .exact⟨.refl ha _,λv h=>by cases h⟩
 exact⟨⟨rfl,ED ha k,B8 _ _⟩,λv h=>by cases h;exact Ha hC k⟩
def qkf(hC:bU C){s:MS}(hM:nF s)(ha:qg s.reads)(op:Int){l:List AV}(hl:∀v∈l,r6 v):EvOk s 1 (bG C op l s).2/\∀v,(bG C op l s).1=.ok v->r6 v:=by
 unfold bG;split
 .rename_i a;unfold zt;have hx:∀v,yz (eF a.n)=.ok v->r6 v:=λv hv=>by
   unfold yz at hv;split at hv
   .cases hv;exact oV (HN _)
   grind
  split
  .refine⟨.refl ha _,λv h=>?_⟩;split at h
   .grind
   cases h
  split
  .refine⟨.refl ha _,λv h=>?_⟩;split at h
   .grind[wJ]
   cases h
  split
  .refine⟨.refl ha _,λv h=>?_⟩;split at h
   .exact Ku h
   cases h
  split
  .refine⟨.refl ha _,λv h=>?_⟩;split at h
   .cases h;have:=(hl a Z).2;exact oV ⟨J,J⟩
   cases h
  split
  .exact⟨.refl ha _,λv h=>by cases h⟩
  have hf:=ZB hC hM ha a.s;split
  .grind
  rename_i w m' hz;rw[hz]at hf;refine⟨hf.1,λv h=>?_⟩;simp only[dO]at h;split at h
  .grind[wJ]
  split at h
  .cases h;exact oV ⟨ax,ax⟩
  split at h
  .exact Ku h
  split at h
  .cases h
  grind
 .exact⟨.refl ha _,λv h=>qpk (hl _ Z) h⟩
 exact⟨.refl ha _,λv h=>by cases h⟩
mutual
theorem nI(hC:bU C):∀(e:Ex) (s:MS),zb e->nF s->qg s.reads->EvOk s (nodes e) (rp C e s).2/\∀v,(rp C e s).1=.ok v->r6 v
 | .mk op n t args,s,hX,hM,ha=>by
  have iC:=(xM _).1 hX;simp only[Ex.n,Ex.s,Ex.args]at iC;rw[rp];split
  .exact⟨.refl ha _,λv h=>by cases h;exact oV iC.1.1⟩
  split
  .exact⟨.refl ha _,λv h=>by cases h;exact⟨⟨ed,ed⟩,iC.1.2⟩⟩
  split
  .refine⟨.refl ha _,λv h=>?_⟩;simp only at h;split at h
   .rename_i w hw;cases h;exact hM.1 _ (zK hw)
   cases h
  have hL:=E6 hC args s iC.2 hM ha;have hn:nodes (.mk op n t args)=lM args+1:=Cm _;split
  .rename_i hI m' hz;rw[hz]at hL;exact⟨hL.1.mono J,λv h=>by cases h⟩
  rename_i l m' hz;rw[hz]at hL;have ho:=qkf hC (hL.1.rng hM) hL.1.asc op (l:=l) (hL.2 l rfl);exact⟨(hL.1.trans ho.1).mono J,ho.2⟩
theorem E6(hC:bU C):∀(l:List Ex) (s:MS),(∀e∈l,zb e)->nF s->qg s.reads->EvOk s (lM l) (uf C l s).2/\∀r,(uf C l s).1=.ok r->∀v∈r,r6 v
 | [],s,_,_,ha=>by rw[uf];exact⟨.refl ha _,λr h=>by cases h;simp⟩
 |e::l,s,hX,hM,ha=>by
  have hE:=nI hC e s (hX e Z) hM ha;rw[uf,CP];split
  .rename_i hI m' hz;rw[hz]at hE;exact⟨hE.1.mono J,λr h=>by cases h⟩
  rename_i w m' hz;rw[hz]at hE;have hL:=E6 hC l m' (λx hx=>hX x be) (hE.1.rng hM) hE.1.asc;split
  .rename_i hI qy hz';rw[hz']at hL;exact⟨hE.1.trans hL.1,λr h=>by cases h⟩
  rename_i r' qy hz';rw[hz']at hL;refine⟨hE.1.trans hL.1,λr h=>?_⟩;cases h;intro v hv;rcases iq.1 hv with rfl|hv
  .grind
  grind
end
end
@[simp] theorem YO(l:List (na×AV))(s:na)(i:Int):yf (wT (l.map λp=>(p.1,aT p.2)) s (.agg [I 1,I i,my em]))=s9 aT (qc l s (vI i)):=Qy aT l s (vI i)
def Bd(e:Ex):Prop:=zb e/\nodes e<=4095
def aR:St->Prop
 | .mk op _ _ a b body els=>(op≠8->Bd a)/\(op=3\/op=6->Bd b)/\(∀x∈body.attach,aR x.1)/\∀x∈els.attach,aR x.1
termination_by s=>SizeOf.sizeOf s
decreasing_by
 all_goals
  exact Qdl
def uO(t:St):aR t↔(t.op≠8->Bd t.a)/\(t.op=3\/t.op=6->Bd t.b)/\(∀x∈t.body,aR x)/\∀x∈t.els,aR x:=by
 cases t with
 |mk op name mx a b body els =>
  rw[aR];simp[St.op,St.a,St.b,St.body,St.els]
structure Inv(r p:Nat)(s:MS):Prop where
 rng:nF s
 ar:qg s.reads
 ap:qg s.puts
 st:s.steps<=16384
 rd:((s.reads.length+r:Nat):Int)<=8192 * s.steps
 pt:((s.puts.length+p:Nat):Int)<=s.steps
 ot:s.out.length<=16
theorem Inv.mono{r p r' p':Nat}{s:MS}(h:Inv r p s)(O:r'<=r)(U:p'<=p):Inv r' p' s:=⟨h.rng,h.ar,h.ap,h.st,by have:=h.rd;omega,by have:=h.pt;omega,h.ot⟩
def Inv.ev{r p n:Nat}{s t:MS}(h:Inv (r+n) p s)(g:EvOk s n t):Inv r p t:=by have O:=h.rd;have U:=g.len;refine⟨g.rng h.rng,g.asc,by rw[g.puts];exact h.ap,by rw[g.steps];exact h.st,by rw[g.steps];omega,by rw[g.steps,g.puts];exact h.pt,by rw[g.out];exact h.ot⟩
def Inv.tick{s t:MS}{u:Unit}(h:Inv 0 0 s)(g:xx s=(.ok u,t)):Inv 8192 1 t:=by
 unfold xx at g;split at g
 .cases g
 cases g;exact⟨h.rng,h.ar,h.ap,by simp only;omega,by have:=h.rd;simp only;omega,by have:=h.pt;simp only;omega,h.ot⟩
def Wn{s:MS}(h:nF s){v:AV}(hv:r6 v)(k:na):nF { s with vars:=qc s.vars k v }:=⟨λp hp=>by
 rcases AY hp with rfl|hp
 .exact hv
 exact h.1 p hp,h.2⟩
theorem Inv.vars{r p:Nat}{s:MS}(h:Inv r p s){v:AV}(hv:r6 v)(k:na):Inv r p { s with vars:=qc s.vars k v }:=⟨Wn h.rng hv k,h.ar,h.ap,h.st,h.rd,h.pt,h.ot⟩
section
variable {C:Cfg}
theorem Inv.store{r:Nat}{s t:MS}{u:Unit}{k:na}{v:AV}(h:Inv r 1 s)(hv:r6 v)(g:yl C k v s=(.ok u,t)):Inv r 0 t:=by
 unfold yl at g;split at g
 .cases g
 split at g
 .cases g
 cases g;refine⟨⟨h.rng.1,λp hp=>?_⟩,h.ar,ED h.ap k,h.st,h.rd,?_,h.ot⟩
 .rcases AY hp with rfl|hp
  .exact hv
  exact h.rng.2 p hp
 have:=B8 s.puts k;have:=h.pt;simp only;omega
theorem Inv.emit{r p:Nat}{s t:MS}{u:Unit}{v:AV}(h:Inv r p s)(g:bO v s=(.ok u,t)):Inv r p t:=by
 unfold bO at g;split at g
 .cases g
 rename_i hn;cases g;exact⟨h.rng,h.ar,h.ap,h.st,h.rd,h.pt,by have:=h.ot;simp;omega⟩
theorem Inv.eval(hC:bU C){r p:Nat}{s:MS}{e:Ex}(h:Inv (r+4095) p s)(he:Bd e):Inv r p (rp C e s).2/\∀v,(rp C e s).1=.ok v->r6 v:=by have O:=nI hC e s he.1 h.rng h.ar;exact⟨h.ev (O.1.mono he.2),O.2⟩
def NZ{body:MS->Except Stop Unit×MS}{name:na}{b:Int}(hb:∀s u t,Inv 8192 1 s->body s=(.ok u,t)->Inv 0 0 t):∀(f:Nat) (i:Int) (s:MS) (u:Unit) (t:MS),i64 i->Inv 0 0 s->vq body name b f i s=(.ok u,t)->Inv 0 0 t
 | 0,i,s,u,t,_,h,g=>by rw[vq]at g;cases g;exact h
 |f+1,i,s,u,t,hi,h,g=>by
  rw[vq]at g;split at g
  .split at g
   .cases g
   rename_i m' hm;have O:=(h.tick hm).vars (oV hi) name;split at g
   .cases g
   rename_i qy uz;exact NZ hb f _ _ _ _ (wC _) (hb _ _ _ O uz) g
  grind
mutual
theorem GJ(hC:bU C):∀(t:St) (s:MS) (u:Unit) (s':MS),aR t->Inv 8192 1 s->vj C t s=(.ok u,s')->Inv 0 0 s'
 | .mk op name mx a b body els,s,u,s',hG,h,g=>by
  have qS:=(uO _).1 hG;simp only[St.op,St.a,St.b,St.body,St.els]at qS;obtain⟨hA,hB,aF,lH⟩:=qS;rw[vj]at g;split at g
  .have O:=h.eval hC (r:=4097) (hA J);split at g
   .cases g
   rename_i v m' hm;rw[hm]at O;cases g;exact(O.1.vars (O.2 _ rfl) name).mono J J
  split at g
  .have O:=h.eval hC (r:=4097) (hA J);split at g
   .cases g
   rename_i v m' hm;rw[hm]at O;have U:=O.1.eval hC (r:=2) (hB J);split at g
   .cases g
   rename_i w qy uz;rw[uz]at U;split at g
   .exact(U.1.store (U.2 _ rfl) g).mono J J
   cases g
  split at g
  .have O:=h.eval hC (r:=4097) (hA J);split at g
   .cases g
   rename_i v m' hm;rw[hm]at O;split at g
   .exact(O.1.store E2 g).mono J J
   cases g
  split at g
  .have O:=h.eval hC (r:=4097) (hA J);split at g
   .cases g
   rename_i v m' hm;rw[hm]at O;split at g
   .split at g
    .exact Am hC body _ _ _ aF (O.1.mono J J) g
    exact Am hC els _ _ _ lH (O.1.mono J J) g
   cases g
  split at g
  .have O:=h.eval hC (r:=4097) (hA J);split at g
   .cases g
   rename_i v m' hm;rw[hm]at O;have U:=O.1.eval hC (r:=2) (hB J);split at g
   .cases g
   rename_i w qy uz;rw[uz]at U;split at g
   .split at g
    .cases g
    exact NZ (λs u t hs hg=>Am hC body s u t aF (hs.mono J J) hg) _ _ _ _ _ (O.2 _ rfl).1 (U.1.mono J J) g
   cases g
  split at g
  .have O:=h.eval hC (r:=4097) (hA J);split at g
   .cases g
   rename_i v m' hm;rw[hm]at O;split at g
   .exact(O.1.emit g).mono J J
   cases g
  split at g
  .cases g
  cases g;exact h.mono J J
theorem Am(hC:bU C):∀(l:List St) (s:MS) (u:Unit) (s':MS),(∀x∈l,aR x)->Inv 0 0 s->re C l s=(.ok u,s')->Inv 0 0 s'
 | [],s,u,s',_,h,g=>by rw[re]at g;cases g;exact h
 |t::l,s,u,s',hG,h,g=>by
  rw[re]at g;split at g
  .cases g
  rename_i m' hm;split at g
  .cases g
  rename_i qy uz;exact Am hC l _ _ _ (λx hx=>hG x be) (GJ hC t _ _ _ (hG t Z) (h.tick hm) uz) g
end
end
section
variable {C:Cfg}
theorem yH(t:St)(m:MS):vj C t m = 
  if t.op=1\/t.op=2 then
   match rp C t.a m with
   |(.error hI,m')=>(.error hI,m')
   |(.ok v,m')=>(.ok (),{ m' with vars:=qc m'.vars t.name v })
  else if t.op=3 then
   match rp C t.a m with
   |(.error hI,m')=>(.error hI,m')
   |(.ok k,m')=>match rp C t.b m' with
    |(.error hI,qy)=>(.error hI,qy)
    |(.ok v,qy)=>if k.k=2/\(v.k=1\/v.k=2)then yl C k.s v qy else(.error (ab 1009),qy)
  else if t.op=4 then
   match rp C t.a m with
   |(.error hI,m')=>(.error hI,m')
   |(.ok k,m')=>if k.k=2 then yl C k.s AV.nil m' else(.error (ab 1009),m')
  else if t.op=5 then
   match rp C t.a m with
   |(.error hI,m')=>(.error hI,m')
   |(.ok c,m')=>if c.k=3 then(if c.n=1 then re C t.body m' else re C t.els m')else(.error (ab 1009),m')
  else if t.op=6 then vj C t m
  else if t.op=7 then
   match rp C t.a m with
   |(.error hI,m')=>(.error hI,m')
   |(.ok v,m')=>if v.k=1\/v.k=2 then bO v m' else(.error (ab 1009),m')
  else if t.op=8 then(.error (ab t.max),m)
  else(.ok (),m):=by
 by_cases h6:t.op=6
 .simp[h6]
 cases t with
 |mk op name mx a b body els =>
  simp only[St.op,St.a,St.b,St.body,St.els,St.name,St.max]at h6|-;rw[vj];simp only[h6,jg];rfl
theorem qrl(k:na)(s:MS):(y4 C k s).2.steps=s.steps:=by grind[y4]
theorem qp2(op:Int)(l:List AV)(s:MS):(bG C op l s).2.steps=s.steps:=by
 unfold bG;split
 .grind[zt,qrl]
 .rfl
 rfl
mutual
theorem Fi:∀(e:Ex) (s:MS),(rp C e s).2.steps=s.steps
 | .mk op n t args,s=>by
  have hL:=QO args s;rw[rp];split
  .rfl
  split
  .rfl
  split
  .rfl
  split
  .grind
  grind[qp2]
theorem QO:∀(l:List Ex) (s:MS),(uf C l s).2.steps=s.steps
 | [],s=>by rw[uf]
 |e::l,s=>by
  have hE:=Fi e s;rw[uf];split
  .grind
  rename_i m' h;rw[h]at hE;have hL:=QO l m';split
  .grind
  grind
end
def I8(s:MS):(xx s).2.steps=s.steps+1:=rfl
theorem Sj(k:na)(v:AV)(s:MS):(yl C k v s).2.steps=s.steps:=by grind[yl]
theorem qsw(v:AV)(s:MS):(bO v s).2.steps=s.steps:=by grind[bO]
def Px{body:MS->Except Stop Unit×MS}{name:na}{b:Int}(hb:∀s,s.steps<=(body s).2.steps):∀(f:Nat) (i:Int) (s:MS),s.steps<=(vq body name b f i s).2.steps
 | 0,i,s=>by rw[vq];simp
 |f+1,i,s=>by
  have hT:=I8 s;rw[vq];split
  .split
   .grind
   rename_i m' h;rw[h]at hT;have hB:=hb { m' with vars:=qc m'.vars name (vI i) };split
   .grind
   rename_i qy U;rw[U]at hB;have:=Px (name:=name) (b:=b) hb f (p9 (i+1)) qy;simp only at hT hB|-;omega
  simp
mutual
theorem qqx:∀(t:St) (s:MS),s.steps<=(vj C t s).2.steps
 | .mk op name mx a b body els,s=>by
  have hE:=Fi (C:=C) a s;rw[vj];split
  .grind
  split
  .grind[Fi,Sj]
  split
  .grind[Sj]
  split
  .split
   .grind
   rename_i k m' h;rw[h]at hE;have O:=EW body m';have U:=EW els m';split
   .grind
   grind
  split
  .split
   .grind
   rename_i u m' h;rw[h]at hE;have tu:=Fi (C:=C) b m';split
   .grind
   rename_i v qy U;rw[U]at tu;have:=Px (body:=λx=>re C body x) (name:=name) (b:=v.n) (λs=>EW body s) 16386 u.n qy;split
   .grind
   grind
  split
  .grind[qsw]
  split
  .simp
  simp
theorem EW:∀(l:List St) (s:MS),s.steps<=(re C l s).2.steps
 | [],s=>by rw[re];simp
 |t::l,s=>by
  have hT:=I8 s;rw[re];split
  .grind
  rename_i m' h;rw[h]at hT;have hS:=qqx t m';split
  .grind
  rename_i qy U;rw[U]at hS;have:=EW l qy;simp only at hT hS|-;omega
end
end
def iX:St->Prop
 | .mk _ _ _ a b body els=>zb a/\zb b/\(∀x∈body.attach,iX x.1)/\∀x∈els.attach,iX x.1
termination_by s=>SizeOf.sizeOf s
decreasing_by
 all_goals
  exact Qdl
def H8(t:St):iX t↔zb t.a/\zb t.b/\(∀x∈t.body,iX x)/\∀x∈t.els,iX x:=by
 cases t with
 |mk op name mx a b body els =>
  rw[iX];simp[St.a,St.b,St.body,St.els]
def Ox{e:Ex}(h:te e 1=0)(G:zb e):Bd e:=⟨G,by have:=Il e 1 12 h J;omega⟩
def Kq:∀(t:St) (d:Nat),aC t d->iX t->aR t
 | .mk op name mx a b body els,d,h,G=>by
  have O:=(dZ _ _).1 h;have U:=(H8 _).1 G;refine(uO _).2 ⟨λk=>Ox (BB h k) U.1,λk=>Ox (Bl h k) U.2.1,λx hx=>?_,λx hx=>?_⟩
  .have:=km (show x∈body from hx);exact Kq x (d+1) (O.2.1 x hx) (U.2.2.1 x hx)
  have:=km (show x∈els from hx);exact Kq x (d+1) (O.2.2 x hx) (U.2.2.2 x hx)
termination_by t=>SizeOf.sizeOf t
decreasing_by
 all_goals
  simp only[St.mk.sizeOf_spec];omega
structure Keeps(C:Cfg)(P:MS->MS->Prop):Prop where
 refl:∀s,P s s
 trans:∀{a b c},P a b->P b c->P a c
 fetch:∀k s,P s (y4 C k s).2
 store:∀k v s,P s (yl C k v s).2
 emit:∀v s,P s (bO v s).2
 tick:∀s,P s (xx s).2
 vars:∀s n v,P s { s with vars:=qc s.vars n v }
section
variable {C:Cfg} {P:MS->MS->Prop} (K:Keeps C P)
include K
theorem Oy(op:Int)(l:List AV)(s:MS):P s (bG C op l s).2:=by
 unfold bG;split
 .rename_i a;unfold zt;have:=K.fetch a.s s
  repeat' split
  all_goals first
   |exact K.refl _
   |(rename_i h;rw[h]at this;exact this)
 .exact K.refl _
 exact K.refl _
mutual
theorem Cy:∀(e:Ex) (s:MS),P s (rp C e s).2
 | .mk op n t args,s=>by
  have hL:=KS args s;rw[rp];split
  .exact K.refl _
  split
  .exact K.refl _
  split
  .exact K.refl _
  split
  .grind
  rename_i h;rw[h]at hL;exact K.trans hL (Oy K _ _ _)
theorem KS:∀(l:List Ex) (s:MS),P s (uf C l s).2
 | [],s=>by rw[uf];exact K.refl _
 |e::l,s=>by
  have hE:=Cy e s;rw[uf];split
  .grind
  rename_i m' h;rw[h]at hE;have hL:=KS l m';split
  .rename_i U;rw[U]at hL;exact K.trans hE hL
  rename_i U;rw[U]at hL;exact K.trans hE hL
end
theorem Hr{body:MS->Except Stop Unit×MS}{name:na}{b:Int}(hb:∀s,P s (body s).2):∀(f:Nat) (i:Int) (s:MS),P s (vq body name b f i s).2
 | 0,i,s=>by rw[vq];exact K.refl _
 |f+1,i,s=>by
  have hT:=K.tick s;rw[vq];split
  .split
   .grind
   rename_i m' h;rw[h]at hT;have hV:=K.vars m' name (vI i);have hB:=hb { m' with vars:=qc m'.vars name (vI i) };split
   .rename_i U;rw[U]at hB;exact K.trans hT (K.trans hV hB)
   rename_i qy U;rw[U]at hB;exact K.trans hT (K.trans hV (K.trans hB (Hr hb f (p9 (i+1)) qy)))
  exact K.refl _
mutual
theorem Xo:∀(t:St) (s:MS),P s (vj C t s).2
 | .mk op name mx a b body els,s=>by
  have hE:=Cy K a s;rw[vj];split
  .split
   .grind
   rename_i v m' h;rw[h]at hE;exact K.trans hE (K.vars _ _ _)
  split
  .split
   .grind
   rename_i k m' h;rw[h]at hE;have tu:=Cy K b m';split
   .rename_i U;rw[U]at tu;exact K.trans hE tu
   rename_i v qy U;rw[U]at tu;split
   .exact K.trans hE (K.trans tu (K.store _ _ _))
   exact K.trans hE tu
  split
  .split
   .grind
   rename_i k m' h;rw[h]at hE;split
   .exact K.trans hE (K.store _ _ _)
   exact hE
  split
  .split
   .grind
   rename_i k m' h;rw[h]at hE;split
   .split
    .exact K.trans hE (wO body m')
    exact K.trans hE (wO els m')
   exact hE
  split
  .split
   .grind
   rename_i u m' h;rw[h]at hE;have tu:=Cy K b m';split
   .rename_i U;rw[U]at tu;exact K.trans hE tu
   rename_i v qy U;rw[U]at tu;split
   .split
    .exact K.trans hE tu
    exact K.trans hE (K.trans tu (Hr K (λs=>wO body s) _ _ _))
   exact K.trans hE tu
  split
  .split
   .grind
   rename_i v m' h;rw[h]at hE;split
   .exact K.trans hE (K.emit _ _)
   exact hE
  split
  .exact K.refl _
  exact K.refl _
theorem wO:∀(l:List St) (s:MS),P s (re C l s).2
 | [],s=>by rw[re];exact K.refl _
 |t::l,s=>by
  have hT:=K.tick s;rw[re];split
  .grind
  rename_i m' h;rw[h]at hT;have hS:=Xo t m';split
  .rename_i U;rw[U]at hS;exact K.trans hT hS
  rename_i qy U;rw[U]at hS;exact K.trans hT (K.trans hS (wO l qy))
end
end
def er{α:Type}:Except Stop α->Option Stop
 | .error hI=>some hI
 | .ok _=>none
structure Alike(C D:Cfg)(P:MS->MS->Prop)(ok:Option Stop->MS->Prop):Prop where
 K:Keeps C P
 fmt:D.fmt=C.fmt
 mono:∀{s t x},P s t->ok x t->ok none s
 fetch:∀k s,ok (er (y4 C k s).1) (y4 C k s).2->y4 D k s=y4 C k s
 store:∀k v s,ok (er (yl C k v s).1) (yl C k v s).2->yl D k v s=yl C k v s
section
variable {C D:Cfg} {P:MS->MS->Prop} {ok:Option Stop->MS->Prop} (mw:Alike C D P ok)
include mw
theorem W4(op:Int)(l:List AV)(s:MS)(h:ok (er (bG C op l s).1) (bG C op l s).2):bG D op l s=bG C op l s:=by
 unfold bG at h|-;split
 .rename_i a;simp only at h|-;unfold zt at h|-;rw[mw.fmt];by_cases O:op=9
  .grind
  by_cases U:op=18
  .grind
  by_cases h3:op=20
  .grind
  by_cases h4:op=21
  .grind
  by_cases h5:a.k≠2
  .grind
  simp only[O,U,h3,h4,h5,jg]at h|-;have hF:=mw.fetch a.s s;rcases hx:y4 C a.s s with⟨hI|v,m'⟩
  .grind
  rw[hx]at h hF;rw[hF (mw.mono (mw.K.refl _) h)]
 .rfl
 rfl
mutual
theorem GZ:∀(e:Ex) (s:MS),ok (er (rp C e s).1) (rp C e s).2->rp D e s=rp C e s
 | .mk op n t args,s,h=>by
  have hL:=SD args s;rw[rp]at h;rw[rp,rp];by_cases O:op=1
  .grind
  by_cases U:op=2
  .grind
  by_cases h3:op=3
  .grind
  simp only[O,U,h3,jg]at h|-;rcases hx:uf C args s with⟨hI|l,m'⟩
  .rw[hx]at h hL;rw[hL h]
  rw[hx]at h hL;rw[hL (mw.mono (Oy mw.K _ _ _) h)];grind[W4]
theorem SD:∀(l:List Ex) (s:MS),ok (er (uf C l s).1) (uf C l s).2->uf D l s=uf C l s
 | [],s,_=>by rw[uf,uf]
 |e::l,s,h=>by
  have hE:=GZ e s;rw[uf]at h;rw[uf,uf];rcases hx:rp C e s with⟨hI|v,m'⟩
  .exact Qdn
  rw[hx]at h hE;simp only at h|-;have hL:=SD l m';have hK:=KS mw.K l m';rcases hy:uf C l m' with⟨hI|r,qy⟩
  .rw[hy]at h hL hK;rw[hE (mw.mono hK h)];grind
  rw[hy]at h hL hK;rw[hE (mw.mono hK h)];simp only;rw[hL h]
end
theorem Nf{body body':MS->Except Stop Unit×MS}{name:na}{b:Int}(hk:∀s,P s (body s).2)(hb:∀s,ok (er (body s).1) (body s).2->body' s=body s):∀(f:Nat) (i:Int) (s:MS),ok (er (vq body name b f i s).1) (vq body name b f i s).2->vq body' name b f i s=vq body name b f i s
 | 0,i,s,_=>by rw[vq,vq]
 |f+1,i,s,h=>by
  rw[vq]at h;rw[vq,vq];by_cases hi:i<b
  .simp only[hi,iz]at h|-;rcases hT:xx s with⟨hI|u,m'⟩
   .rfl
   rw[hT]at h;simp only at h|-;have hB:=hb { m' with vars:=qc m'.vars name (vI i) };rcases hx:body { m' with vars:=qc m'.vars name (vI i) }with⟨hI|u,qy⟩
   .grind
   rw[hx]at h hB;simp only at h|-;rw[hB (mw.mono (Hr mw.K hk _ _ _) h)];exact Nf hk hb f _ _ h
  grind
mutual
theorem qmz:∀(t:St) (s:MS),ok (er (vj C t s).1) (vj C t s).2->vj D t s=vj C t s
 | .mk op name mx a b body els,s,h=>by
  have hE:=GZ mw a s;rw[vj]at h;rw[vj,vj];by_cases O:op=1\/op=2
  .simp only[O,iz]at h|-;rcases hx:rp C a s with⟨hI|v,m'⟩
   .exact Qdn
   rw[hx]at h hE;rw[hE (mw.mono (mw.K.vars _ _ _) h)]
  simp only[O,jg]at h|-;by_cases h3:op=3
  .simp only[h3,iz]at h|-;rcases hx:rp C a s with⟨hI|v,m'⟩
   .exact Qdn
   rw[hx]at h hE;simp only at h|-;have tu:=GZ mw b m';have hK:=Cy mw.K b m';rcases hy:rp C b m' with⟨hI|w,qy⟩
   .rw[hy]at h tu hK;rw[hE (mw.mono hK h)];simp only;rw[tu h]
   rw[hy]at h tu hK;simp only at h|-;split at h
   .rename_i hc;have L:=mw.mono (mw.K.store v.s w qy) h;rw[hE (mw.mono hK L)];simp only;rw[tu L];simp only[hc,and_self,iz];exact mw.store v.s w qy h
   exact Qdo
  simp only[h3,jg]at h|-;by_cases h4:op=4
  .simp only[h4,iz]at h|-;rcases hx:rp C a s with⟨hI|v,m'⟩
   .exact Qdn
   rw[hx]at h hE;simp only at h|-;split at h
   .rename_i hc;rw[hE (mw.mono (mw.K.store v.s AV.nil m') h)];simp only[hc,iz];exact mw.store v.s AV.nil m' h
   rename_i hc;rw[hE (mw.mono (mw.K.refl _) h)];grind
  simp only[h4,jg]at h|-;by_cases h5:op=5
  .simp only[h5,iz]at h|-;rcases hx:rp C a s with⟨hI|v,m'⟩
   .exact Qdn
   rw[hx]at h hE;simp only at h|-;split at h
   .rename_i hc;split at h
    .rename_i hn;rw[hE (mw.mono (wO mw.K body m') h)];simp only[hc,hn,iz];exact DI body m' h
    rename_i hn;rw[hE (mw.mono (wO mw.K els m') h)];simp only[hc,hn,iz,jg];exact DI els m' h
   rename_i hc;rw[hE (mw.mono (mw.K.refl _) h)];grind
  simp only[h5,jg]at h|-;by_cases h6:op=6
  .simp only[h6,iz]at h|-;rcases hx:rp C a s with⟨hI|v,m'⟩
   .exact Qdn
   rw[hx]at h hE;simp only at h|-;have tu:=GZ mw b m';have hK:=Cy mw.K b m';rcases hy:rp C b m' with⟨hI|w,qy⟩
   .rw[hy]at h tu hK;rw[hE (mw.mono hK h)];simp only;rw[tu h]
   rw[hy]at h tu hK;simp only at h|-;split at h
   .rename_i hc;split at h
    .rename_i ht;have L:=mw.mono (mw.K.refl _) h;rw[hE (mw.mono hK L)];simp only;rw[tu L];grind
    rename_i ht;have L:=mw.mono (Hr mw.K (λs=>wO mw.K body s) _ _ _) h;rw[hE (mw.mono hK L)];simp only;rw[tu L];simp only[hc,ht,and_self,iz,jg];exact Nf mw (λs=>wO mw.K body s) (λs=>DI body s) _ _ _ h
   exact Qdo
  simp only[h6,jg]at h|-;by_cases h7:op=7
  .simp only[h7,iz]at h|-;rcases hx:rp C a s with⟨hI|v,m'⟩
   .exact Qdn
   rw[hx]at h hE;simp only at h|-;split at h
   .rename_i hc;rw[hE (mw.mono (mw.K.emit v m') h)]
   rename_i hc;rw[hE (mw.mono (mw.K.refl _) h)]
  grind
theorem DI:∀(l:List St) (s:MS),ok (er (re C l s).1) (re C l s).2->re D l s=re C l s
 | [],s,_=>by rw[re,re]
 |t::l,s,h=>by
  rw[re]at h;rw[re,re];rcases hT:xx s with⟨hI|u,m'⟩
  .rfl
  rw[hT]at h;simp only at h|-;have hS:=qmz t m';rcases hx:vj C t m' with⟨hI|u,qy⟩
  .grind
  rw[hx]at h hS;simp only at h|-;rw[hS (mw.mono (wO mw.K l qy) h)];exact DI l qy h
end
end
def CF{l:List na}{k x:na}:x∈zj l k↔x=k\/x∈l:=by grind[zj,gw,me]
def Grow(s t:MS):Prop:=(∀k∈s.reads,k∈t.reads)/\(∀k∈s.puts,k∈t.puts)/\s.steps<=t.steps
theorem Grow.refl(s:MS):Grow s s:=⟨λ_ h=>h,λ_ h=>h,gj _⟩
def qpj(C:Cfg):Keeps C Grow where
 refl:=Grow.refl
 trans:=λh g=>⟨λk hk=>g.1 k (h.1 k hk),λk hk=>g.2.1 k (h.2.1 k hk),jh h.2.2 g.2.2⟩
 fetch:=λk s=>by
  unfold y4;split
  .exact Grow.refl _
  split
  .exact Grow.refl _
  split
  .exact Grow.refl _
  exact⟨λx hx=>CF.2 (.inr hx),λ_ h=>h,gj _⟩
 store:=λk v s=>by
  unfold yl;split
  .exact Grow.refl _
  split
  .exact Grow.refl _
  exact⟨λ_ h=>h,λx hx=>CF.2 (.inr hx),gj _⟩
 emit:=λv s=>by
  unfold bO;split
  .exact Grow.refl _
  exact⟨λ_ h=>h,λ_ h=>h,gj _⟩
 tick:=λs=>⟨λ_ h=>h,λ_ h=>h,by simp[xx]⟩
 vars:=λs n v=>⟨λ_ h=>h,λ_ h=>h,gj _⟩
def qq0(C:Cfg)(st:List Pr):Alike C { C with state:=st } Grow (λ_ m=>∀k∈m.reads,pp C.state k=pp st k) where
 K:=qpj C
 fmt:=rfl
 mono:=λh g k hk=>g k (h.1 k hk)
 fetch:=λk s h=>by
  unfold y4 at h|-;split
  .rfl
  split
  .rfl
  split
  .rfl
  rename_i O _ U h3;simp only[O,jg,U,h3]at h;have:=h k (CF.2 (.inl rfl));simp only[this]
 store:=λk v s _=>rfl
structure Fit(C:Cfg)(s t:MS):Prop where
 rd:∀k∈t.reads,k∈s.reads\/(zp k=true/\(C.all=true\/qa C.rd k=true))
 pt:∀k∈t.puts,k∈s.puts\/(zp k=true/\(C.all=true\/qa C.wr k=true))
 ar:qg s.reads->qg t.reads
 ap:qg s.puts->qg t.puts
theorem Fit.refl(C:Cfg)(s:MS):Fit C s s:=⟨λ_ h=>.inl h,λ_ h=>.inl h,id,id⟩
def qsx(C:Cfg):Keeps C (Fit C) where
 refl:=Fit.refl C
 trans:=λh g=>⟨λk hk=>(g.rd k hk).elim (h.rd k) .inr,λk hk=>(g.pt k hk).elim (h.pt k) .inr,λa=>g.ar (h.ar a),λa=>g.ap (h.ap a)⟩
 fetch:=λk s=>by
  unfold y4;split
  .exact Fit.refl C _
  split
  .exact Fit.refl C _
  split
  .exact Fit.refl C _
  rename_i O _ _ h3;refine⟨λx hx=>?_,λ_ h=>.inl h,λa=>ED a k,id⟩;rcases CF.1 hx with rfl|hx
  .grind
  grind
 store:=λk v s=>by
  unfold yl;split
  .exact Fit.refl C _
  split
  .exact Fit.refl C _
  rename_i O h3;refine⟨λ_ h=>.inl h,λx hx=>?_,id,λa=>ED a k⟩;rcases CF.1 hx with rfl|hx
  .grind
  grind
 emit:=λv s=>by
  unfold bO;split
  .exact Fit.refl C _
  exact⟨λ_ h=>.inl h,λ_ h=>.inl h,id,id⟩
 tick:=λs=>⟨λ_ h=>.inl h,λ_ h=>.inl h,id,id⟩
 vars:=λs n v=>⟨λ_ h=>.inl h,λ_ h=>.inl h,id,id⟩
def qW(C:Cfg)(hI:Stop):Prop:=(∃c,hI=ab c)\/∃k,hI=rst k/\C.all=false/\zp k=true/\(qa C.rd k=false\/qa C.wr k=false)
theorem RE{r:Int×Int}{hI:Stop}(h:yz r=.error hI):∃c,hI=ab c:=by grind[yz]
theorem Ih{s:na}{hI:Stop}(h:dR s=.error hI):∃c,hI=ab c:=by grind[dR]
def Yp{op:Int}{a b:AV}{hI:Stop}(h:zu op a b=.error hI):∃c,hI=ab c:=by grind[zu,fF,wR,RE,Ih]
def qr1{op:Int}{v:AV}{hI:Stop}(h:dO op v=.error hI):∃c,hI=ab c:=by grind[dO,Ih]
section
variable {C:Cfg}
theorem Wz{k:na}{s t:MS}{hI:Stop}(h:y4 C k s=(.error hI,t)):qW C hI:=by
 unfold y4 at h;split at h
 .exact Qdp
 split at h
 .cases h
 split at h
 .rename_i O _ _ h3;cases h;exact .inr ⟨k,rfl,h3.1,da,.inl h3.2⟩
 cases h
def SA{k:na}{v:AV}{s t:MS}{hI:Stop}(h:yl C k v s=(.error hI,t)):qW C hI:=by
 unfold yl at h;split at h
 .exact Qdp
 split at h
 .rename_i O h3;cases h;exact .inr ⟨k,rfl,h3.1,da,.inr h3.2⟩
 cases h
def UL{v:AV}{s t:MS}{hI:Stop}(h:bO v s=(.error hI,t)):qW C hI:=by
 unfold bO at h;split at h
 .exact Qdp
 cases h
theorem LL{s t:MS}{hI:Stop}(h:xx s=(.error hI,t)):qW C hI:=by
 unfold xx at h;split at h
 .exact Qdp
 cases h
def Zl{op:Int}{l:List AV}{s t:MS}{hI:Stop}(h:bG C op l s=(.error hI,t)):qW C hI:=by
 have hx:∀{x:EV} {u:MS},(x,u)=((.error hI,t):EV×MS)->x=.error hI:=λh=>congrArg Prod.fst h;unfold bG at h;split at h
 .rename_i a;unfold zt at h;split at h
  .have h:=hx h;split at h
   .exact .inl (RE h)
   exact Qdp
  split at h
  .have h:=hx h;exact Qdq
  split at h
  .have h:=hx h;split at h
   .exact .inl (Ih h)
   exact Qdp
  split at h
  .have h:=hx h;exact Qdq
  split at h
  .exact Qdp
  split at h
  .grind[Wz]
  exact .inl (qr1 (hx h))
 .exact .inl (Yp (hx h))
 exact Qdp
mutual
theorem yA:∀(e:Ex) (s t:MS) (hI:Stop),rp C e s=(.error hI,t)->qW C hI
 | .mk op n x args,s,t,hI,h=>by
  rw[rp]at h;split at h
  .cases h
  split at h
  .cases h
  split at h
  .have h:=congrArg Prod.fst h;simp only at h;exact Qdq
  split at h
  .rename_i hL;cases h;exact Pt args s _ _ hL
  exact Zl h
theorem Pt:∀(l:List Ex) (s t:MS) (hI:Stop),uf C l s=(.error hI,t)->qW C hI
 | [],s,t,hI,h=>by rw[uf]at h;cases h
 |e::l,s,t,hI,h=>by
  rw[uf]at h;split at h
  .rename_i hE;cases h;exact yA e s _ _ hE
  split at h
  .rename_i hL;cases h;exact Pt l _ _ _ hL
  cases h
end
def N5{body:MS->Except Stop Unit×MS}{name:na}{b:Int}(hb:∀s t hI,body s=(.error hI,t)->qW C hI):∀(f:Nat) (i:Int) (s t:MS) (hI:Stop),vq body name b f i s=(.error hI,t)->qW C hI
 | 0,i,s,t,hI,h=>by rw[vq]at h;cases h
 |f+1,i,s,t,hI,h=>by
  rw[vq]at h;split at h
  .split at h
   .grind[LL]
   split at h
   .grind
   exact N5 hb f _ _ _ _ h
  cases h
mutual
theorem Uj:∀(x:St) (s t:MS) (hI:Stop),vj C x s=(.error hI,t)->qW C hI
 | .mk op name mx a b body els,s,t,hI,h=>by
  rw[vj]at h;split at h
  .grind[yA]
  split at h
  .split at h
   .grind[yA]
   split at h
   .grind[yA]
   split at h
   .exact SA h
   exact Qdp
  split at h
  .split at h
   .grind[yA]
   split at h
   .exact SA h
   exact Qdp
  split at h
  .split at h
   .grind[yA]
   split at h
   .split at h
    .exact Ek body _ _ _ h
    exact Ek els _ _ _ h
   exact Qdp
  split at h
  .split at h
   .grind[yA]
   split at h
   .grind[yA]
   split at h
   .split at h
    .exact Qdp
    exact N5 (λs t hI h=>Ek body s t hI h) _ _ _ _ _ h
   exact Qdp
  split at h
  .split at h
   .grind[yA]
   split at h
   .exact UL h
   exact Qdp
  split at h
  .exact Qdp
  cases h
theorem Ek:∀(l:List St) (s t:MS) (hI:Stop),re C l s=(.error hI,t)->qW C hI
 | [],s,t,hI,h=>by rw[re]at h;cases h
 |x::l,s,t,hI,h=>by
  rw[re]at h;split at h
  .grind[LL]
  split at h
  .rename_i hS;cases h;exact Uj x _ _ _ hS
  exact Ek l _ _ _ h
end
end
