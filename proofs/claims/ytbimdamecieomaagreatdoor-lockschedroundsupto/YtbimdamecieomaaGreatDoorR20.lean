/- Part 20 of a proof. -/
import Derived.Lib.Bytealg
import Derived.Test.YtbimdamecieomaaGreatDoorR13
set_option linter.all false
namespace Go.Cw
open Go Go.Abs
abbrev g9:=ByteArray
abbrev I(n:Int):AV:=.val (.int .i64 n)
abbrev S(s:g9):AV:=.val (.string s)
abbrev Bo(b:Bool):AV:=.val (.bool b)
abbrev U8(n:Int):AV:=.val (.int .u8 n)
abbrev P0(i:Nat):AV:=.ptr i 0
def im(s:g9):List AV:=[S s]
def iw(n:Int):List AV:=[I n]
structure V where
 k:Int
 n:Int
 s:g9
def V.c(v:V):List AV:=[I v.k,I v.n,S v.s]
def V.nil:V:=⟨0,0,⟨#[]⟩⟩
structure Pr where
 key:g9
 v:V
def Pr.c(p:Pr):List AV:=[S p.key,I p.v.k,I p.v.n,S p.v.s]
inductive Ex where
 |mk (op n:Int) (s:g9) (args:List Ex)
mutual
def Ex.c:Ex→List AV
 | .mk op n s args=>[I op,I n,S s,.slice (Ex.cl args)]
def Ex.cl:List Ex→List (List AV)
 | []=>[]
 |e::l=>e.c::Ex.cl l
end
theorem Ex.cl_map:∀l,Ex.cl l=l.map Ex.c
 | []=>rfl
 |e::l=>by simp[Ex.cl,Ex.cl_map l]
def Ex.op:Ex→Int| .mk o _ _ _=>o
def Ex.n:Ex→Int| .mk _ n _ _=>n
def Ex.s:Ex→g9| .mk _ _ s _=>s
def Ex.args:Ex→List Ex| .mk _ _ _ a=>a
abbrev Ex.x(e:Ex):List AV:=[I e.op,I e.n,S e.s,.slice (e.args.map Ex.c)]
theorem Ex.c_eq(e:Ex):e.c=e.x:=by cases e;simp[Ex.c,Ex.cl_map,Ex.op,Ex.n,Ex.s,Ex.args]
inductive St where
 |mk (op:Int) (name:g9) (max:Int) (a b:Ex) (body els:List St)
mutual
def St.c:St→List AV
 | .mk op name max a b body els=>[I op,S name,I max]++a.c++b.c++[.slice (St.cl body),.slice (St.cl els)]
def St.cl:List St→List (List AV)
 | []=>[]
 |e::l=>e.c::St.cl l
end
theorem St.cl_map:∀l,St.cl l=l.map St.c
 | []=>rfl
 |e::l=>by simp[St.cl,St.cl_map l]
def St.op:St→Int| .mk o _ _ _ _ _ _=>o
def St.name:St→g9| .mk _ n _ _ _ _ _=>n
def St.max:St→Int| .mk _ _ m _ _ _ _=>m
def St.a:St→Ex| .mk _ _ _ a _ _ _=>a
def St.b:St→Ex| .mk _ _ _ _ b _ _=>b
def St.body:St→List St| .mk _ _ _ _ _ l _=>l
def St.els:St→List St| .mk _ _ _ _ _ _ l=>l
abbrev St.x(s:St):List AV:=[I s.op,S s.name,I s.max,I s.a.op,I s.a.n,S s.a.s,.slice (s.a.args.map Ex.c),I s.b.op,I s.b.n,S s.b.s,.slice (s.b.args.map Ex.c),.slice (s.body.map St.c),.slice (s.els.map St.c)]
theorem St.c_eq(s:St):s.c=s.x:=by
 cases s;simp[St.c,St.cl_map,St.op,St.name,St.max,St.a,St.b,St.body,St.els,Ex.c_eq]
structure Param where
 name:g9
 ty:Int
def Param.c(p:Param):List AV:=[S p.name,I p.ty]
structure Proc where
 name:g9
 params:List Param
 body:List St
def Proc.c(p:Proc):List AV:=[S p.name,.slice (p.params.map Param.c),.slice (p.body.map St.c)]
structure Foot where
 all:Bool
 reads:List g9
 writes:List g9
def Foot.c(f:Foot):List AV:=[Bo f.all,.slice (f.reads.map im),.slice (f.writes.map im)]
structure Eff where
 status:Int
 code:Int
 out:List V
 reads:List g9
 puts:List g9
 writes:List Pr
 miss:g9
 steps:Int
def Eff.c(e:Eff):List AV:=[I e.status,I e.code,.slice (e.out.map V.c),.slice (e.reads.map im),.slice (e.puts.map im),.slice (e.writes.map Pr.c),S e.miss,I e.steps]
theorem qe6{n:Int}(h0:-9223372036854775808≤n)(h1:n<9223372036854775808):IntKind.i64.wrap n=n:=by
 simp[IntKind.wrap,IntKind.bits,IntKind.signed];omega
@[simp] theorem jop:IntKind.i64.wrap 0=0:=bc
@[simp] theorem jo0:IntKind.i64.wrap 1=1:=bc
@[simp] theorem jrf:IntKind.i64.wrap 2=2:=bc
@[simp] theorem jr5:IntKind.i64.wrap (-1) = -1:=bc
theorem qve{n L:Nat}(h:n≤L)(hL:L≤68719476736):IntKind.i64.wrap (n:Int)=n:=qe6 aa aa
theorem ji{α:Type}{l:List α}{n:Nat}(h:n<l.length):l.drop n=l[n]::l.drop (n+1):=ql1 h
@[simp] theorem jrq{α:Type}(f:α→List AV)(l:List α)(n:Nat)(h:n<l.length):(l.map f).getD n []=f l[n]:=by
 simp[fg,h]
attribute [go_sem] V.nil im iw V.c Pr.c Param.c Proc.c Foot.c Eff.c yz AV.bd
abbrev em:g9:=⟨#[]⟩
def bl(s:g9):List UInt8:=s.data.toList
def zn(s:g9)(n:Nat):UInt8:=(bl s).getD n 0
@[simp] theorem jpc(s:g9)(n:Nat):xay s (n:Int)=zn s n:=rfl
theorem qvm{s:g9}{n:Nat}(h:n<s.size):(bl s).drop n=zn s n::(bl s).drop (n+1):=by
 have h':n<(bl s).length:=h;rw[ql1 h'];rw[zn,fg,da h',f9]
theorem qu3{s:g9}{n:Nat}(h:¬n<s.size):(bl s).drop n=[]:=by
 refine cv ?_;have h':¬n<(bl s).length:=h;omega
def o5{α:Type}(p:α→Bool):List α→Bool
 | []=>true
 |x::l=>p x&&o5 p l
theorem xge{α:Type}{p:α→Bool}:∀{l:List α},o5 p l=true↔∀x,x∈l→p x=true
 | []=>by simp[o5]
 |x::l=>by simp[o5,xge (l:=l)]
theorem xhu(s:g9):s=em∨1≤(s.size:Int):=by
 rcases s with⟨⟨l⟩⟩;cases l with
 |nil=>exact .inl rfl
 |cons x l=>refine .inr ?_;simp[ByteArray.size];omega
def okB(b:UInt8):Bool:=!(decide ((b.toNat:Int)<32)||decide ((126:Int)<b.toNat))
def ml(s:g9):Bool:=o5 okB (bl s)&&decide ((s.size:Int)≤64)
def qt8(b:UInt8):Bool :=
 (decide ((97:Int)≤b.toNat)&&decide ((b.toNat:Int)≤122))||(decide ((48:Int)≤b.toNat)&&decide ((b.toNat:Int)≤57))||decide ((b.toNat:Int)=47)||decide ((b.toNat:Int)=46)||decide ((b.toNat:Int)=95)||decide ((b.toNat:Int)=45)
def rk(s:g9):Bool:=!decide (s=em)&&decide ((s.size:Int)≤24)&&o5 qt8 (bl s)
def vj(k n:Int)(s:g9):Bool:=if k=0 then decide (n=0)&&decide (s=em)else if k=1 then decide (s=em)else if k=2 then decide (n=0)&&ml s else false
def qs4(k n:Int)(s:g9):Bool:=if k=3 then(decide (n=0)||decide (n=1))&&decide (s=em)else !decide (k=0)&&vj k n s
def after:Option g9→g9→Bool
 |none,_=>true
 |some p,k=>ju p k
def ui:Option g9→List g9→Bool
 |_,[]=>true
 |we,k::l=>rk k&&after we k&&ui (some k) l
def nv{α:Type}(l:List α)(n:Nat):Option α:=if n=0 then none else l[n-1]?
def my(all:Bool)(r w:List g9):Bool:=if all then decide (r.length=0)&&decide (w.length=0)else(ui none r&&decide ((r.length:Int)≤64))&&(ui none w&&decide ((w.length:Int)≤64))
theorem xuz:∀a:List UInt8,Op.bytesLess a a=false
 | []=>rfl
 |x::a=>by simp[Op.bytesLess,xuz a]
theorem xpc:∀{a b c:List UInt8},Op.bytesLess a b=true→Op.bytesLess b c=true→Op.bytesLess a c=true
 |_,_,[],_,h=>by rename_i b _;cases b<;>simp[Op.bytesLess]at h
 |_,[],_,h,_=>by rename_i a _ _;cases a<;>simp[Op.bytesLess]at h
 | [],_::_,_::_,_,_=>by simp[Op.bytesLess]
 |x::a,y::b,z::c,h,k=>by
  simp only[Op.bytesLess,fv,c0,decide_eq_true_eq,beq_iff_eq]at h k⊢;rcases h with h|⟨rfl,h⟩
  ·rcases k with k|⟨rfl,k⟩
   ·exact .inl (UInt8.lt_trans h k)
   ·exact .inl h
  ·rcases k with k|⟨rfl,k⟩
   ·exact .inl k
   ·exact .inr ⟨rfl,xpc h k⟩
theorem xwm:∀a b:List UInt8,Op.bytesLess a b = !(Op.bytesLess b a||a == b)
 | [],[]=>by simp[Op.bytesLess]
 | [],_::_=>by simp[Op.bytesLess]
 |_::_,[]=>by simp[Op.bytesLess]
 |x::a,y::b=>by
  have ih:=xwm a b;simp only[Op.bytesLess];by_cases h:x=y
  ·subst h;simp[ih,UInt8.lt_irrefl]
  ·have h':¬y=x:=fun e=>h e.symm;rcases UInt8.lt_or_lt_of_ne h with h1|h1
   ·simp[h,h',h1,UInt8.lt_asymm h1]
   ·simp[h,h',h1,UInt8.lt_asymm h1]
theorem qbx(a:g9):ju a a=false:=xuz _
theorem qdz{a b c:g9}(h:ju a b=true)(k:ju b c=true):ju a c=true:=xpc h k
theorem xb6(a b:g9):ju a b = !(ju b a||decide (a=b)):=by
 unfold ju;rw[xwm,toList_inj]
theorem xf5{a b:g9}(h:ju a b=true):ju b a=false:=by
 cases k:ju b a with
 |false=>rfl
 |true=>have:=qdz h k;rw[qbx]at this;cases this
theorem qtj{a b:g9}(h:ju a b=true):¬a=b:=by
 rintro rfl;rw[qbx]at h;cases h
theorem xmi(a b:g9):(ju b a||decide (b=a)) = !ju a b:=by
 rw[xb6 a b,Bool.not_not];congr 1;exact decide_eq_decide.2 ⟨Eq.symm,Eq.symm⟩
def pp{α:Type}(p:α→Bool):Nat→List α→Int
 |_,[]=>-1
 |n,x::l=>if p x then n else pp p (n+1) l
def ni{α:Type}(p:α→Bool)(l:List α):Int:=pp p 0 l
def mv{α:Type}(p:α→Bool):List α→Bool
 | []=>false
 |x::l=>p x||mv p l
theorem xvk{α:Type}(p:α→Bool):∀(l:List α) (n:Nat),decide (0≤pp p n l)=mv p l
 | [],n=>by simp[pp,mv]
 |x::l,n=>by
  simp only[pp,mv];by_cases h:p x=true
  ·simp[h]
  ·have:=xvk p l (n+1);simp only[h,if_false,this,qlw,fw]
theorem xib{α:Type}(p:α→Bool)(l:List α):decide (0≤ni p l)=mv p l:=xvk p l 0
def qtp:Option g9→List Pr→Bool
 |_,[]=>true
 |we,p::l=>rk p.key&&vj p.v.k p.v.n p.v.s&&after we p.key&&qtp (some p.key) l
def nn(l:List Pr):Bool:=qtp none l&&!mv (fun p=>decide (p.v.k=0)) l
def lh:List Pr→g9→V
 | [],_=>V.nil
 |p::l,k=>if p.key=k then p.v else lh l k
def qq2:Option g9→List Pr→Bool
 |_,[]=>true
 |we,p::l=>rk p.key&&after we p.key&&qq2 (some p.key) l
def p8(l:List Pr)(k:g9):Bool:=mv (fun p=>decide (p.key=k)) l
def qtt(l:List Pr):Bool:=o5 (fun p=>vj p.v.k p.v.n p.v.s) l
def qc6(l:List Pr):Bool:=qtt l&&qq2 none l
def xak(l:List Pr):Bool:=!mv (fun p=>decide (p.v.k=0)) l&&qc6 l
theorem xg6:∀(l:List Pr) (we:Option g9),qtp we l=(qtt l&&qq2 we l)
 | [],_=>rfl
 |p::l,we=>by
  simp only[qtp,qtt,o5,qq2];rw[xg6 l];simp only[qtt];generalize rk p.key=a;generalize vj p.v.k p.v.n p.v.s=b;generalize after we p.key=c;generalize o5 _ l=d;generalize qq2 _ l=e;cases a<;>cases b<;>cases c<;>cases d<;>rfl
theorem xwj(l:List Pr):xak l=nn l:=by
 simp only[xak,nn,qc6,xg6];rw[Bool.and_comm]
def rz(k:g9):List Pr→Nat
 | []=>0
 |p::l=>if ju p.key k then rz k l+1 else 0
def qn9(l:List Pr)(p:Pr):List Pr:=l.take (rz p.key l)++p::l.drop (rz p.key l)
def qp7(w:List Pr):List Pr→List Pr
 | []=>[]
 |p::l=>if p8 w p.key then qp7 w l else p::qp7 w l
def qp1:List Pr→List Pr→List Pr
 |out,[]=>out
 |out,p::l=>if p.v.k=0 then qp1 out l else qp1 (qn9 out p) l
def qnd(l w:List Pr):List Pr:=qp1 (qp7 w l) w
def pw{α:Type}(f:α→α→Bool):List α→List α→Bool
 | [],[]=>true
 |x::l,y::l'=>f x y&&pw f l l'
 |_,_=>false
def ug(a b:V):Bool:=decide (a.k=b.k)&&(decide (a.n=b.n)&&decide (a.s=b.s))
def eqP(a b:Pr):Bool:=decide (a.key=b.key)&&ug a.v b.v
def eqB(a b:g9):Bool:=decide (a=b)
def qpa(a b:Eff):Bool :=
 decide (a.status=b.status)&&decide (a.code=b.code)&&pw ug a.out b.out&&pw eqB a.reads b.reads&&pw eqB a.puts b.puts&&pw eqP a.writes b.writes&&decide (a.miss=b.miss)&&decide (a.steps=b.steps)
theorem xe6{α:Type}{f:α→α→Bool}:∀{l l':List α},l.length≠l'.length→pw f l l'=false
 | [],[],h=>(h rfl).elim
 | [],_::_,_=>rfl
 |_::_,[],_=>rfl
 |x::l,y::l',h=>by simp[pw,xe6 (l:=l) (l':=l') bh]
theorem xek(k:g9):∀l,rz k l≤l.length
 | []=>ct _
 |p::l=>by
  simp only[rz];split
  ·simpa using xek k l
  ·simp
theorem jhb(l:List Pr)(p:Pr):(qn9 l p).length=l.length+1:=by
 have:=xek p.key l;simp[qn9];omega
@[simp] theorem jpi:ByteArray.size em=0:=rfl
def jk(l:List g9)(k:g9):Bool:=mv (fun x=>decide (x=k)) l
theorem iv{n L:Nat}(h:n≤L)(hL:L≤68719476736):IntKind.i64.wrap ((n:Int)+1)=(n:Int)+1:=qe6 aa aa
section
variable {P:Program} {E:Ent} {Q:AExit→Env→Prop} {e:Env}
theorem pa{α:Type}{b:Code}(L:Nat)(inv:Nat→α→Prop)(S:Nat→α→Env)(a0:α)(h0:inv 0 a0)(hw:Wk E e (S 0 a0))
  (step:∀n a,n≤L→inv n a→wpC P E b (AExit.then (fun e'=>n<L∧∃a',inv (n+1) a'∧Wk E e' (S (n+1) a')) Q) (S n a)):AWp P E (.loop b) Q e :=
 xmf (ι:=Nat×α) (I:=fun x=>x.1≤L∧inv x.1 x.2) (S:=fun x=>S x.1 x.2) (μ:=fun x=>L - x.1) (0,a0) ⟨di _,h0⟩ hw fun x ⟨hn,hI⟩ =>
  (na _ _ _ (step x.1 x.2 hn hI)).mono fun y e' hx=>by
   cases y with
   |normal =>
    obtain⟨h1,a',h2,h3⟩:=hx;exact⟨(x.1+1,a'),⟨h1,h2⟩,cc,h3⟩
   |_=>exact hx
theorem jl{b:Code}(L:Nat)(inv:Nat→Prop)(S:Nat→Env)(h0:inv 0)(hw:Wk E e (S 0))
  (step:∀n,n≤L→inv n→wpC P E b (AExit.then (fun e'=>n<L∧inv (n+1)∧Wk E e' (S (n+1))) Q) (S n)):AWp P E (.loop b) Q e :=
 xmf (ι:=Nat) (I:=fun n=>n≤L∧inv n) (S:=S) (μ:=fun n=>L - n) 0 ⟨di _,h0⟩ hw fun n ⟨hn,hI⟩ =>
  (na _ _ _ (step n hn hI)).mono fun x e' hx=>by
   cases x with
   |normal=>exact⟨n+1,⟨hx.1,hx.2.1⟩,by have:=hx.1;omega,hx.2.2⟩
   |_=>exact hx
end
end Go.Cw
namespace Go.Cw
theorem xir{α:Type}(q:α→Bool):∀(l:List α) (n:Nat),(pp q n l = -1∧l.find? q=none)∨∃(m:Nat) (hm:m<l.length),pp q n l=((n+m:Nat):Int)∧l.find? q=some l[m]
 | [],n=>.inl ⟨by rw[pp],rfl⟩
 |x::l,n=>by
  rw[pp];by_cases h:q x=true
  ·right;exact⟨0,ae,co,co⟩
  ·rw[if_neg h];rcases xir q l (n+1)with⟨h1,h2⟩|⟨m,hm,h1,h2⟩
   ·exact .inl ⟨h1,by simp[h,h2]⟩
   ·refine .inr ⟨m+1,am,?_,?_⟩
    ·rw[h1];congr 1;omega
    ·simp[h,h2]
theorem qzt{α:Type}(q:α→Bool)(l:List α):(ni q l = -1∧l.find? q=none)∨∃(m:Nat) (hm:m<l.length),ni q l=(m:Int)∧l.find? q=some l[m]:=by
 have:=xir q l 0;simpa[ni]using this
end Go.Cw
namespace Go.Cw
open Go Go.Abs
attribute [go_sem] Ex.c_eq St.c_eq Ex.x St.x
@[simp] theorem jos(s:g9):xay s 0=zn s 0:=rfl
@[simp] theorem jqu(b:UInt8):IntKind.i32.wrap (b.toNat:Int)=b.toNat:=by
 have:=b.toNat_lt;simp[IntKind.wrap,IntKind.bits,IntKind.signed];omega
def ltr(c:Int):Bool:=decide (97≤c)&&decide (c≤122)
def qvl(c:Int):Bool:=ltr c||(decide (48≤c)&&decide (c≤57))||decide (c=95)
def qqw:List UInt8→Nat
 | []=>0
 |b::l=>if qvl b.toNat then qqw l+1 else 0
def kw(s:g9):Bool :=
 decide (s=⟨#[112,114,111,99]⟩)||decide (s=⟨#[108,101,116]⟩)||decide (s=⟨#[112,117,116]⟩)||decide (s=⟨#[100,101,108,101,116,101]⟩)||decide (s=⟨#[105,102]⟩)||decide (s=⟨#[101,108,115,101]⟩)||decide (s=⟨#[102,111,114]⟩)||decide (s=⟨#[116,111]⟩)||decide (s=⟨#[109,97,120]⟩)||decide (s=⟨#[101,109,105,116]⟩)||decide (s=⟨#[97,98,111,114,116]⟩)||decide (s=⟨#[110,111,116]⟩)||decide (s=⟨#[97,110,100]⟩)||decide (s=⟨#[111,114]⟩)||decide (s=⟨#[105,110,116]⟩)||decide (s=⟨#[115,116,114]⟩)||decide (s=⟨#[98,111,111,108]⟩)||decide (s=⟨#[116,101,120,116]⟩)||decide (s=⟨#[108,101,110]⟩)||decide (s=⟨#[103,101,116,105,110,116]⟩)||decide (s=⟨#[103,101,116,115,116,114]⟩)||decide (s=⟨#[104,97,115]⟩)||decide (s=⟨#[110,111,119]⟩)||decide (s=⟨#[114,97,110,100,111,109]⟩)||decide (s=⟨#[110,111,100,101]⟩)
def qnu(s:g9):Bool:=!decide (s=em)&&decide ((s.size:Int)≤16)&&ltr (zn s 0).toNat&&decide ((qqw (bl s):Int)=s.size)&&!kw s
def me(op:Int):Int:=if op<1∨27<op then -1 else if op≤3∨25≤op then 0 else if op=9∨op=18∨20≤op then 1 else 2
def vk(op n:Int)(s:g9)(k:Nat)(d:Int):Int :=
 if me op<0∨(op≠1∧n≠0)∨(op≠2∧op≠3∧s≠em)then 1
 else if op=3∧qnu s=false then 7
 else if (op=1∧n<0)∨(op=2∧ml s=false)∨(k:Int)≠me op then 1
 else if 12<d then 2 else 0
mutual
def mg:Ex→Nat→Int
 | .mk op n s args,d=>if vk op n s args.length d=0 then vq args (d+1)else vk op n s args.length d
def vq:List Ex→Nat→Int
 | [],_=>0
 |e::l,d=>if mg e d=0 then vq l d else mg e d
end
theorem qva(e:Ex)(d:Nat):mg e d=if vk e.op e.n e.s e.args.length d=0 then vq e.args (d+1)else vk e.op e.n e.s e.args.length d:=by
 cases e with
 |mk o n s a=>rw[mg];rfl
theorem Ex.arg_lt{e x:Ex}(h:x∈e.args):SizeOf.sizeOf x<SizeOf.sizeOf e:=by
 cases e with
 |mk o n s a =>
  have:=fj (show x∈a from h);simp only[Ex.mk.sizeOf_spec];omega
structure Uses where
 name:Bool
 a:Bool
 b:Bool
 max:Bool
 body:Bool
 other:Bool
def Uses.c(u:Uses):List AV:=[Bo u.name,Bo u.a,Bo u.b,Bo u.max,Bo u.body,Bo u.other]
attribute [go_sem] Uses.c
def mu(op:Int):Uses×Bool :=
 if op=1∨op=2 then(⟨true,true,false,false,false,false⟩,true)
 else if op=3 then(⟨false,true,true,false,false,false⟩,true)
 else if op=4∨op=7 then(⟨false,true,false,false,false,false⟩,true)
 else if op=5 then(⟨false,true,false,false,true,true⟩,true)
 else if op=6 then(⟨true,true,true,true,true,false⟩,true)
 else if op=8 then(⟨false,false,false,true,false,false⟩,true)
 else(⟨false,false,false,false,false,false⟩,false)
def zp(e:Ex):Bool:=decide (e.op=0)&&decide (e.n=0)&&decide (e.s=em)&&decide (e.args.length=0)
def vd(s:St)(u:Uses):Bool :=
 !((!u.name&&!decide (s.name=em))||(!u.a&&!zp s.a)||(!u.b&&!zp s.b)||(!u.max&&!decide (s.max=0))||(!u.body&&decide (0<s.body.length))||(!u.other&&decide (0<s.els.length))) &&
 (if s.op=6 then decide (1≤s.max)&&decide (s.max≤16)else if s.op=8 then decide (0≤s.max)&&decide (s.max≤999)else true)
def sg(s:St)(d:Int):Int :=
 let u:=(mu s.op).1
 if (mu s.op).2=false∨vd s u=false then 1
 else if u.name=true∧qnu s.name=false then 7
 else if u.a=true∧mg s.a 1≠0 then mg s.a 1
 else if u.b=true∧mg s.b 1≠0 then mg s.b 1
 else if 12<d then 2 else 0
def qdn:List Param→List Param→Int
 |_,[]=>0
 |pre,p::l=>if qnu p.name=false then 7 else if p.ty<1∨3<p.ty then 10 else if mv (fun q=>decide (q.name=p.name)) pre then 8 else qdn (pre++[p]) l
def qtb(l:List Param):Int:=if 6<l.length then 2 else qdn [] l
theorem joj{s:g9}{p:Nat}(h:p<s.size)(hb:(zn s p).toNat<128):Utf8.decode s p=((zn s p).toNat,1):=by
 have e:s.get! p=zn s p:=by
  have h':p<s.data.size:=h;simp[ByteArray.get!,zn,bl,fg,Array.getElem!_eq_getD,Array.getD];rw[dif_pos h,fm h',f9]
 unfold Utf8.decode;simp only[d6,e];rw[if_pos hb]
theorem ji9{s:g9}{p:Nat}(h:p<s.size)(hb:¬(zn s p).toNat<128):128≤(Utf8.decode s p).1:=by
 have e:s.get! p=zn s p:=by
  have h':p<s.data.size:=h;simp[ByteArray.get!,zn,bl,fg,Array.getElem!_eq_getD,Array.getD];rw[dif_pos h,fm h',f9]
 unfold Utf8.decode;simp only[d6,e];rw[if_neg hb];split
 ·split
  ·assumption
  ·simp[Utf8.runeError]
 ·split
  ·split
   ·rename_i h1;simp only[c0,decide_eq_true_eq]at h1;omega
   ·simp[Utf8.runeError]
  ·split
   ·split
    ·rename_i h1;simp only[c0,decide_eq_true_eq]at h1;omega
    ·simp[Utf8.runeError]
   ·simp[Utf8.runeError]
mutual
def exW:Ex→Nat→Nat
 | .mk _ _ _ args,left=>if left=0 then 0 else qsj args (left - 1)
def qsj:List Ex→Nat→Nat
 | [],n=>n
 |e::l,n=>qsj l (exW e n)
end
theorem xdx(e:Ex)(n:Nat):exW e n=if n=0 then 0 else qsj e.args (n - 1):=by
 cases e with
 |mk o k s a=>rw[exW];rfl
mutual
theorem xeo:∀(e:Ex) (n:Nat),exW e n≤n
 | .mk _ _ _ args,n=>by
  rw[exW];split
  ·omega
  ·have:=xe3 args (n - 1);omega
theorem xe3:∀(l:List Ex) (n:Nat),qsj l n≤n
 | [],n=>by rw[qsj];omega
 |e::l,n=>by
  rw[qsj];have:=xe3 l (exW e n);have:=xeo e n;omega
end
theorem jmw(e:Ex){n:Nat}(h:n≠0):exW e n<n:=by
 rw[xdx,if_neg h];have:=xe3 e.args (n - 1);omega
section
variable {σ:Type} (fS:σ→St→Nat→σ) (fR:σ→Ex→σ)
def pj(e:Ex)(x:Nat×σ):Nat×σ:=if x.1=0∨zp e=true then x else(exW e x.1,fR x.2 e)
mutual
def uf:St→Nat→Nat×σ→Nat×σ
 | .mk _ _ _ a b body els,d,x=>mh els (d+1) (mh body (d+1) (pj fR b (pj fR a x)))
def mh:List St→Nat→Nat×σ→Nat×σ
 | [],_,x=>x
 |s::l,d,x=>if x.1=0 then x else mh l d (uf s d (x.1 - 1,fS x.2 s d))
end
theorem jkl(s:St)(d:Nat)(x:Nat×σ):uf fS fR s d x=mh fS fR s.els (d+1) (mh fS fR s.body (d+1) (pj fR s.b (pj fR s.a x))):=by
 cases s;rw[uf];rfl
theorem xfb(e:Ex)(x:Nat×σ):(pj fR e x).1≤x.1:=by
 unfold pj;split
 ·omega
 ·exact xeo _ _
mutual
theorem jib:∀(s:St) (d:Nat) (x:Nat×σ),(uf fS fR s d x).1≤x.1
 | .mk _ _ _ a b body els,d,x=>by
  rw[uf];have h1:=qt2 els (d+1) (mh fS fR body (d+1) (pj fR b (pj fR a x)));have h2:=qt2 body (d+1) (pj fR b (pj fR a x));have h3:=xfb fR b (pj fR a x);have h4:=xfb fR a x;omega
theorem qt2:∀(l:List St) (d:Nat) (x:Nat×σ),(mh fS fR l d x).1≤x.1
 | [],d,x=>by rw[mh];omega
 |s::l,d,x=>by
  rw[mh];split
  ·omega
  ·have h1:=qt2 l d (uf fS fR s d (x.1 - 1,fS x.2 s d));have h2:=jib s d (x.1 - 1,fS x.2 s d);simp only at h2;omega
end
section
variable (K:σ→Nat) (hS:∀s t d,K (fS s t d)≤K s+1) (hR:∀s e,K (fR s e)≤K s+1)
include hR in
theorem xgk(e:Ex)(x:Nat×σ):K (pj fR e x).2+(pj fR e x).1≤K x.2+x.1:=by
 unfold pj;split
 ·omega
 ·rename_i h;have h0:x.1≠0:=fun h1=>h (.inl h1);have h1:=jmw e h0;have h2:=hR x.2 e;simp only;omega
include hS hR in
mutual
theorem jnp:∀(s:St) (d:Nat) (x:Nat×σ),K (uf fS fR s d x).2+(uf fS fR s d x).1≤K x.2+x.1
 | .mk _ _ _ a b body els,d,x=>by
  rw[uf];have h1:=qy0 els (d+1) (mh fS fR body (d+1) (pj fR b (pj fR a x)));have h2:=qy0 body (d+1) (pj fR b (pj fR a x));have h3:=xgk fR K hR b (pj fR a x);have h4:=xgk fR K hR a x;omega
theorem qy0:∀(l:List St) (d:Nat) (x:Nat×σ),K (mh fS fR l d x).2+(mh fS fR l d x).1≤K x.2+x.1
 | [],d,x=>by rw[mh];omega
 |s::l,d,x=>by
  rw[mh];split
  ·omega
  ·have h1:=qy0 l d (uf fS fR s d (x.1 - 1,fS x.2 s d));have h2:=jnp s d (x.1 - 1,fS x.2 s d);have h3:=hS x.2 s d;simp only at h2;omega
end
end
end
theorem St.body_le(s:St):SizeOf.sizeOf s.body<SizeOf.sizeOf s:=by
 cases s;simp only[St.mk.sizeOf_spec,St.body];omega
theorem St.els_le(s:St):SizeOf.sizeOf s.els<SizeOf.sizeOf s:=by
 cases s;simp only[St.mk.sizeOf_spec,St.els];omega
structure WH{σ:Type}(P:Program)(w:Nat)(fs fr:FuncId)(cs cr:List AV)(H:Nat→σ→gz)(fS:σ→St→Nat→σ)(fR:σ→Ex→σ)(n0:Nat)(K:σ→Nat)(M:Nat):Prop where
 len:∀left s,(H left s).length=n0
 lt:w<n0
 look:∀(left:Nat) s,(H left s)[w]?=some (.cells [I left,.fn (.func fs) [] cs,.fn (.func fr) [] cr])
 set:∀(left qw4:Nat) s,(H left s).set w (.cells [I qw4,.fn (.func fs) [] cs,.fn (.func fr) [] cr])=H qw4 s
 und:∀left s,hUnder n0 (H left s)=true
 ncs:∀h,kc h cs=cs
 ncr:∀h,kc h cr=cr
 hS:∀s t d,K (fS s t d)≤K s+1
 hR:∀s e,K (fR s e)≤K s+1
 stmt:∀left s L (t:St) (d:Nat),K s+left+1≤M→ACalls P fs ([.agg t.x,I d]++cs) (H left s++L) fun r h'=>r=.ret (.tuple [])∧h'=H left (fS s t d)++L
 root:∀left s L (e:Ex),K s+left≤M→left≠0→ACalls P fr ([.agg e.x]++cr) (H left s++L) fun r h'=>r=.ret (.tuple [])∧h'=H left (fR s e)++L
theorem WH.w'{σ:Type}{P:Program}{w:Nat}{fs fr:FuncId}{cs cr:List AV}{H:Nat→σ→gz}{fS:σ→St→Nat→σ}{fR:σ→Ex→σ}{n0:Nat}{K:σ→Nat}{M:Nat}(W:WH P w fs fr cs cr H fS fR n0 K M)(left:Nat)(s:σ)(l:gz) :
  (H left s++l)[w]?=some (.cells [I left,.fn (.func fs) [] cs,.fn (.func fr) [] cr]):=by
 rw[cu (by rw[W.len];exact W.lt)];exact W.look left s
theorem WH.set'{σ:Type}{P:Program}{w:Nat}{fs fr:FuncId}{cs cr:List AV}{H:Nat→σ→gz}{fS:σ→St→Nat→σ}{fR:σ→Ex→σ}{n0:Nat}{K:σ→Nat}{M:Nat}(W:WH P w fs fr cs cr H fS fR n0 K M)(left qw4:Nat)(s:σ)(l:gz) :
  (H left s++l).set w (.cells [I qw4,.fn (.func fs) [] cs,.fn (.func fr) [] cr])=H qw4 s++l:=by
 rw[e9 _ _ (by rw[W.len];exact W.lt),W.set]
section
variable {σ:Type} {P:Program} {w:Nat} {fs fr:FuncId} {cs cr:List AV} {H:Nat→σ→gz} {fS:σ→St→Nat→σ} {fR:σ→Ex→σ} {n0:Nat} {K:σ→Nat} {M:Nat}
theorem WH.und'(W:WH P w fs fr cs cr H fS fR n0 K M)(left:Nat)(s:σ):hUnder (H left s).length (H left s)=true:=by rw[W.len];exact W.und left s
theorem WH.ext(W:WH P w fs fr cs cr H fS fR n0 K M)(L:gz)(hL:hUnder (n0+L.length) L=true):WH P w fs fr cs cr (fun left s=>H left s++L) fS fR (n0+L.length) K M where
 len:=fun left s=>by rw[cz,W.len]
 lt:=by have:=W.lt;omega
 look:=fun left s=>W.w' left s L
 set:=fun left qw4 s=>W.set' left qw4 s L
 und:=fun left s=>by rw[tn,ww aa (W.und left s),hL];rfl
 ncs:=W.ncs
 ncr:=W.ncr
 hS:=W.hS
 hR:=W.hR
 stmt:=fun left s L' t d hk=>by simpa[dr]using W.stmt left s (L++L') t d hk
 root:=fun left s L' e hk h0=>by simpa[dr]using W.root left s (L++L') e hk h0
theorem WH.loc0(W:WH P w fs fr cs cr H fS fR n0 K M)(left:Nat)(s:σ)(x:AObj)(l:gz):(H left s++x::l)[n0]?=some x:=by
 rw[cy qjo,W.len,ff];rfl
theorem WH.loc1(W:WH P w fs fr cs cr H fS fR n0 K M)(left:Nat)(s:σ)(x y:AObj)(l:gz):(H left s++x::y::l)[n0+1]?=some y:=by
 rw[cy qjo,W.len,show n0+1 - n0=1 by omega];rfl
theorem WH.set0(W:WH P w fs fr cs cr H fS fR n0 K M)(left:Nat)(s:σ)(x y:AObj)(l:gz):(H left s++x::l).set n0 y=H left s++y::l:=by
 rw[fq _ _ qjo,W.len,ff];rfl
theorem WH.set1(W:WH P w fs fr cs cr H fS fR n0 K M)(left:Nat)(s:σ)(x y z:AObj)(l:gz):(H left s++x::y::l).set (n0+1) z=H left s++x::z::l:=by
 rw[fq _ _ qjo,W.len,show n0+1 - n0=1 by omega];rfl
end
structure CB{σ:Type}(P:Program)(fs fr:FuncId)(cs cr:List AV)(H:σ→gz)(fS:σ→St→Nat→σ)(fR:σ→Ex→σ)(n0:Nat)(K:σ→Nat)(M:Nat):Prop where
 len:∀s,(H s).length=n0
 und:∀s,hUnder n0 (H s)=true
 ucs:nb n0 cs=true
 ucr:nb n0 cr=true
 ncs:∀h,kc h cs=cs
 ncr:∀h,kc h cr=cr
 hS:∀s t d,K (fS s t d)≤K s+1
 hR:∀s e,K (fR s e)≤K s+1
 stmt:∀s L (t:St) (d:Nat),K s+1≤M→ACalls P fs ([.agg t.x,I d]++cs) (H s++L) fun r h'=>r=.ret (.tuple [])∧h'=H (fS s t d)++L
 root:∀s L (e:Ex),K s+1≤M→ACalls P fr ([.agg e.x]++cr) (H s++L) fun r h'=>r=.ret (.tuple [])∧h'=H (fR s e)++L
theorem CB.walk{σ:Type}{P:Program}{fs fr:FuncId}{cs cr:List AV}{H:σ→gz}{fS:σ→St→Nat→σ}{fR:σ→Ex→σ}{n0:Nat}{K:σ→Nat}{M:Nat}(B:CB P fs fr cs cr H fS fR n0 K M)(o:AObj)(ho:o.under n0=true) :
  WH P (n0+1) fs fr cs cr (fun left s=>H s++[o,.cells [I left,.fn (.func fs) [] cs,.fn (.func fr) [] cr]]) fS fR (n0+2) K M where
 len:=fun left s=>by simp[B.len]
 lt:=aa
 look:=fun left s=>by
  rw[cy qjp,B.len,show n0+1 - n0=1 by omega];rfl
 set:=fun left qw4 s=>by
  rw[fq _ _ qjp,B.len,show n0+1 - n0=1 by omega];rfl
 und:=fun left s=>by
  have h1:hUnder (n0+2) [o]=true:=ww (n:=n0) aa (by simp[hUnder,ho]);have h2:=qct (show n0≤n0+2 by omega) cs B.ucs;have h3:=qct (show n0≤n0+2 by omega) cr B.ucr;rw[tn,ww aa (B.und s),fh];simp only[hUnder,fl]at h1;simp only[hUnder,h1,fh,fl];show nb _ _=true;simp[nb,AV.under,h2,h3]
 ncs:=B.ncs
 ncr:=B.ncr
 hS:=B.hS
 hR:=B.hR
 stmt:=fun left s L t d hk=>by simpa[dr]using B.stmt s ([o,.cells [I left,.fn (.func fs) [] cs,.fn (.func fr) [] cr]]++L) t d aa
 root:=fun left s L e hk h0=>by simpa[dr]using B.root s ([o,.cells [I left,.fn (.func fs) [] cs,.fn (.func fr) [] cr]]++L) e aa
def uw(d0:Int)(t:St)(d:Nat):Int:=if d0=0 then sg t d else d0
def md{σ:Type}(s:σ)(_:Ex):σ:=s
def xg{σ:Type}(s:σ)(_:St)(_:Nat):σ:=s
def s7(p:Proc):Int :=
 if qnu p.name=false then 7
 else if qtb p.params≠0 then qtb p.params
 else
  let x:=mh uw md p.body 1 (401,(0:Int))
  if x.2=0∧x.1=0 then 2 else x.2
def tu(l:List g9)(t:St)(_:Nat):List g9:=if t.op=1∨t.op=6 then l++[t.name]else l
def yp(p:Proc):List g9:=(mh tu md p.body 1 (401,p.params.map (·.name))).2
def qpb(l:List Ex)(e:Ex):List Ex:=l++[e]
def rg(p:Proc):List Ex:=(mh xg qpb p.body 1 (401,[])).2
theorem xs0(l:List g9)(t:St)(d:Nat):(tu l t d).length≤l.length+1:=by
 unfold tu;split<;>simp
def nh(op:Int):Int×Int :=
 if op=1∨op=25∨op=26∨op=27∨op=4∨op=5∨op=6∨op=7∨op=8∨op=9 then(1,1)
 else if op=2∨op=19∨op=23 then(2,2)
 else if op=16∨op=17∨op=18 then(3,3)
 else if op=20 then(1,2)
 else if op=21∨op=22 then(2,1)
 else(2,3)
def xe4(op ty:Int):Bool:=!decide (ty=3)||decide (op=10)||decide (op=11)
def qsv(op:Int):Bool:=decide (op=25)||decide (op=26)||decide (op=27)
abbrev jt(n:Int):Int:=IntKind.i64.wrap n
def wj(a:Int):Int×Int:=if a = -9223372036854775808 then(0,3)else(jt (-a),0)
def qry(a b:Int):Int×Int:=if (0<b∧jt (a+b)<a)∨(b<0∧a<jt (a+b))then(0,3)else(jt (a+b),0)
def t0(a b:Int):Int×Int:=if (0<b∧a<jt (a - b))∨(b<0∧jt (a - b)<a)then(0,3)else(jt (a - b),0)
def qnw(a b:Int):Int×Int :=
 if a=0∨b=0 then(0,0)else if a = -1 then wj b else if b = -1 then wj a
 else if jt ((jt (a * b)).tdiv b)≠a then(0,3)else(jt (a * b),0)
def qow(a b:Int):Int×Int :=
 if b=0 then(0,4)else if b = -1 then wj a
 else if a.tmod b≠0∧decide (a<0)≠decide (b<0)then(jt (jt (a.tdiv b) - 1),0)else(jt (a.tdiv b),0)
def qoj(a b:Int):Int×Int :=
 if b=0 then(0,4)else if b = -1 then(0,0)
 else if a.tmod b≠0∧decide (a.tmod b<0)≠decide (b<0)then(jt (a.tmod b+b),0)else(a.tmod b,0)
def qtw(a b:Int):Int:=if a<b then -1 else if b<a then 1 else 0
def qq1(a b:g9):Int:=Go.Lib.compareBytes a.data.toList b.data.toList
def qp5(u v:V):Int:=if u.k≠v.k then qtw u.k v.k else if u.n=v.n then qq1 u.s v.s else qtw u.n v.n
def mb{α:Type}(f:α→AV)(l:List (g9×α)):List (AV×AV):=qj (l.map fun p=>(p.1,f p.2))
def jg{α:Type}:List (g9×α)→g9→Option α
 | [],_=>none
 |p::l,s=>if p.1=s then some p.2 else jg l s
def js{α:Type}:List (g9×α)→g9→α→List (g9×α)
 | [],s,v=>[(s,v)]
 |p::l,s,v=>if p.1=s then(s,v)::l else p::js l s v
def qp3{α:Type}:List (g9×α)→g9→List (g9×α)
 | [],_=>[]
 |p::l,s=>if p.1=s then l else p::qp3 l s
@[simp] theorem jpy{α:Type}(f:α→AV)(l:List (g9×α)):strKeys (mb f l)=some (l.map fun p=>(p.1,f p.2)):=by
 induction l with
 |nil=>rfl
 |cons p l ih =>
  simp only[mb,qj,c8,strKeys]at ih⊢;rw[ih];rfl
@[simp] theorem jr3{α:Type}(f:α→AV)(l:List (g9×α))(s:g9):qto (l.map fun p=>(p.1,f p.2)) s=(jg l s).map f:=by
 induction l with
 |nil=>rfl
 |cons p l ih =>
  simp only[c8,qto,jg,ih];split<;>rfl
@[simp] theorem xup{α:Type}(f:α→AV)(l:List (g9×α))(s:g9)(v:α):qj (qua (l.map fun p=>(p.1,f p.2)) s (f v))=mb f (js l s v):=by
 rw[mb];congr 1
 induction l with
 |nil=>rfl
 |cons p l ih =>
  simp only[c8,qua,js,ih];split<;>rfl
@[simp] theorem jpk{α:Type}(f:α→AV)(l:List (g9×α))(s:g9):qj (qwm (l.map fun p=>(p.1,f p.2)) s)=mb f (qp3 l s):=by
 rw[mb];congr 1
 induction l with
 |nil=>rfl
 |cons p l ih =>
  simp only[c8,qwm,qp3,ih];split<;>rfl
def wn:Option Int→Int×Int
 |none=>(0,11)
 |some ty=>if ty<1∨3<ty then(0,10)else(ty,0)
mutual
def ofE(vars:List (g9×Int)):Ex→Int×Int
 | .mk op _ s args =>
  if op=3 then wn (jg vars s)
  else match uc vars args with
   |(e,tys) =>
    if e≠0 then(0,e)
    else if 10≤op∧op≤15 then(if tys.getD 0 0≠tys.getD 1 0∨xe4 op (tys.getD 0 0)=false then(0,10)else(3,0))
    else if tys.all (fun t=>decide (t=(nh op).1))then((nh op).2,0)else(0,10)
def uc(vars:List (g9×Int)):List Ex→Int×List Int
 | []=>(0,[])
 |e::l=>if (ofE vars e).2≠0 then((ofE vars e).2,[])else((uc vars l).1,(ofE vars e).1::(uc vars l).2)
end
theorem que(vars:List (g9×Int))(e:Ex):ofE vars e =
  if e.op=3 then wn (jg vars e.s)
  else if (uc vars e.args).1≠0 then(0,(uc vars e.args).1)
  else if 10≤e.op∧e.op≤15 then(if (uc vars e.args).2.getD 0 0≠(uc vars e.args).2.getD 1 0∨xe4 e.op ((uc vars e.args).2.getD 0 0)=false then(0,10)else(3,0))
  else if (uc vars e.args).2.all (fun t=>decide (t=(nh e.op).1))then((nh e.op).2,0)else(0,10):=by
 cases e with
 |mk o n s a=>rw[ofE];rfl
theorem xyg{l:List Ex}{d:Nat}(h:vq l d=0):∀x∈l,mg x d=0:=by
 induction l with
 |nil=>simp
 |cons e l ih =>
  rw[vq]at h;split at h
  ·rename_i h0;intro x hx;rcases cw.1 hx with rfl|hx
   ·exact h0
   ·exact ih h x hx
  ·contradiction
theorem xjd{e:Ex}{d:Nat}(h:mg e d=0):∀x∈e.args,mg x (d+1)=0:=by
 rw[qva]at h;split at h
 ·exact xyg h
 ·contradiction
theorem qez{e:Ex}{d:Nat}(h:mg e d=0):(e.args.length:Int)=me e.op:=by
 rw[qva]at h;split at h
 ·rename_i h0;unfold vk at h0;split at h0
  ·omega
  split at h0
  ·omega
  split at h0
  ·omega
  rename_i h3;simp only[not_or,Decidable.not_not]at h3;exact h3.2.2
 ·contradiction
section
structure TS where
 visible:List (g9×Int)
 loops:List (g9×Bool)
 all:List (g9×Int)
def TS.decl(s:TS)(name:g9)(ty:Int):TS:=⟨js s.visible name ty,s.loops,js s.all name ty⟩
def ki(vis:List (g9×Int))(t:St):Int×Int×Int :=
 if t.op=8 then(0,0,0)
 else if (ofE vis t.a).2=0∧(t.op=3∨t.op=6)then((ofE vis t.a).1,(ofE vis t.b).1,(ofE vis t.b).2)
 else((ofE vis t.a).1,0,(ofE vis t.a).2)
def qrp(l:List St)(vis:List (g9×Int)):List (g9×Int) :=
 match l with
 | []=>vis
 |s::l=>qrp l (if s.op=1 then qp3 vis s.name else vis)
def tv:St→Nat→Prop
 | .mk op name mx a b body els,d=>sg (.mk op name mx a b body els) d=0∧(∀x∈body.attach,tv x.1 (d+1))∧(∀x∈els.attach,tv x.1 (d+1))
termination_by s=>SizeOf.sizeOf s
decreasing_by
 all_goals
  have:=fj x.2;simp only[St.mk.sizeOf_spec];omega
def x6(l:List St)(d:Nat):Prop:=∀s∈l,tv s d
theorem xc(s:St)(d:Nat):tv s d↔sg s d=0∧x6 s.body (d+1)∧x6 s.els (d+1):=by
 cases s with
 |mk op name mx a b body els =>
  rw[tv];simp[x6,St.body,St.els]
theorem jb9{e:Int}{t:St}{d:Nat}(h:uw e t d=0):e=0∧sg t d=0:=by
 unfold uw at h;split at h
 ·exact⟨by assumption,h⟩
 ·contradiction
theorem xfg{σ:Type}(e:Ex)(x:Nat×σ):(pj md e x).2=x.2:=by
 unfold pj md;split<;>rfl
mutual
theorem jfh:∀(s:St) (d:Nat) (x:Nat×Int),(uf uw md s d x).2=0→(uf uw md s d x).1≠0→x.2=0∧x6 s.body (d+1)∧x6 s.els (d+1)
 | .mk _ _ _ a b body els,d,x,h0,h1=>by
  rw[uf]at h0 h1;have h2:=xet els (d+1) _ h0 h1;have hl:=qt2 uw md els (d+1) (mh uw md body (d+1) (pj md b (pj md a x)));have h3:=xet body (d+1) _ h2.1 aa;rw[xfg,xfg]at h3;exact⟨h3.1,h3.2,h2.2⟩
theorem xet:∀(l:List St) (d:Nat) (x:Nat×Int),(mh uw md l d x).2=0→(mh uw md l d x).1≠0→x.2=0∧x6 l d
 | [],d,x,h0,h1=>by
  rw[mh]at h0;exact⟨h0,by simp[x6]⟩
 |s::l,d,x,h0,h1=>by
  rw[mh]at h0 h1;split at h0
  ·rename_i hz;rw[if_pos hz]at h1;contradiction
  ·rename_i hz;rw[if_neg hz]at h1;have h2:=xet l d _ h0 h1;have hl:=qt2 uw md l d (uf uw md s d (x.1 - 1,uw x.2 s d));have h3:=jfh s d _ h2.1 aa;have h4:=jb9 h3.1;refine⟨h4.1,fun y hy=>?_⟩;rcases cw.1 hy with rfl|hy
   ·exact(xc _ _).2 ⟨h4.2,h3.2⟩
   ·exact h2.2 y hy
end
theorem qzb{p:Proc}(h:s7 p=0):x6 p.body 1:=by
 unfold s7 at h;split at h
 ·contradiction
 split at h
 ·contradiction
 simp only at h;split at h
 ·contradiction
 rename_i h1;simp only[not_and]at h1;exact(xet p.body 1 (401,0) h (h1 h)).2
theorem xtd{t:St}{d:Nat}(h:sg t d=0)(ho:(mu t.op).1.a=true):mg t.a 1=0:=by
 unfold sg at h;grind
theorem xn0{t:St}{d:Nat}(h:sg t d=0)(ho:(mu t.op).1.b=true):mg t.b 1=0:=by
 unfold sg at h;grind
structure TH(c a b d:Nat)(H:TS→gz)(n0:Nat):Prop where
 len:∀s,(H s).length=n0
 hc:c<n0
 ha:a<n0
 hb:b<n0
 hd:d<n0
 lc:∀s,(H s)[c]?=some (.cells [.mapr a,.mapr b,.mapr d])
 la:∀s,(H s)[a]?=some (.map (mb I s.visible))
 lb:∀s,(H s)[b]?=some (.map (mb Bo s.loops))
 ld:∀s,(H s)[d]?=some (.map (mb I s.all))
 sa:∀s v,(H s).set a (.map (mb I v))=H ⟨v,s.loops,s.all⟩
 sb:∀s v,(H s).set b (.map (mb Bo v))=H ⟨s.visible,v,s.all⟩
 sd:∀s v,(H s).set d (.map (mb I v))=H ⟨s.visible,s.loops,v⟩
 und:∀s,hUnder n0 (H s)=true
section
variable {c a b d:Nat} {H:TS→gz} {n0:Nat}
theorem TH.gl(T:TH c a b d H n0){i:Nat}(hi:i<n0)(s:TS)(l:gz):(H s++l)[i]?=(H s)[i]?:=cu (by rw[T.len];exact hi)
theorem TH.lc'(T:TH c a b d H n0)(s:TS)(l:gz):(H s++l)[c]?=some (.cells [.mapr a,.mapr b,.mapr d]):=by rw[T.gl T.hc,T.lc]
theorem TH.la'(T:TH c a b d H n0)(s:TS)(l:gz):(H s++l)[a]?=some (.map (mb I s.visible)):=by rw[T.gl T.ha,T.la]
theorem TH.lb'(T:TH c a b d H n0)(s:TS)(l:gz):(H s++l)[b]?=some (.map (mb Bo s.loops)):=by rw[T.gl T.hb,T.lb]
theorem TH.ld'(T:TH c a b d H n0)(s:TS)(l:gz):(H s++l)[d]?=some (.map (mb I s.all)):=by rw[T.gl T.hd,T.ld]
theorem TH.sa'(T:TH c a b d H n0)(s:TS)(v:List (g9×Int))(l:gz):(H s++l).set a (.map (mb I v))=H ⟨v,s.loops,s.all⟩++l:=by rw[e9 _ _ (by rw[T.len];exact T.ha),T.sa]
theorem TH.sb'(T:TH c a b d H n0)(s:TS)(v:List (g9×Bool))(l:gz):(H s++l).set b (.map (mb Bo v))=H ⟨s.visible,v,s.all⟩++l:=by rw[e9 _ _ (by rw[T.len];exact T.hb),T.sb]
theorem TH.sd'(T:TH c a b d H n0)(s:TS)(v:List (g9×Int))(l:gz):(H s++l).set d (.map (mb I v))=H ⟨s.visible,s.loops,v⟩++l:=by rw[e9 _ _ (by rw[T.len];exact T.hd),T.sd]
theorem TH.und'(T:TH c a b d H n0)(s:TS):hUnder (H s).length (H s)=true:=by rw[T.len];exact T.und s
theorem TH.ext(T:TH c a b d H n0)(L:gz)(hL:hUnder (n0+L.length) L=true):TH c a b d (fun s=>H s++L) (n0+L.length) where
 len:=fun s=>by rw[cz,T.len]
 hc:=by have:=T.hc;omega
 ha:=by have:=T.ha;omega
 hb:=by have:=T.hb;omega
 hd:=by have:=T.hd;omega
 lc:=fun s=>T.lc' s L
 la:=fun s=>T.la' s L
 lb:=fun s=>T.lb' s L
 ld:=fun s=>T.ld' s L
 sa:=fun s v=>T.sa' s v L
 sb:=fun s v=>T.sb' s v L
 sd:=fun s v=>T.sd' s v L
 und:=fun s=>by rw[tn,ww aa (T.und s),hL];rfl
end
end
end Go.Cw
