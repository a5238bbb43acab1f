/- Part 21 of a proof: CwA, CwB, CwC, CwD, CwE, CwF -/
import Derived.Lib.Bytealg
import Derived.Test.YtilhejdbiionhaaGreatDoorR12
import Derived.Test.YtilhejdbiionhaaGreatDoorR13
set_option linter.all false

namespace Go.Cw
open Go Go.Abs
abbrev qac:=ByteArray
abbrev I(n:Int):AV:=.val (.int .i64 n)
abbrev S(s:qac):AV:=.val (.string s)
abbrev Bo(b:Bool):AV:=.val (.bool b)
abbrev U8(n:Int):AV:=.val (.int .u8 n)
abbrev P0(i:Nat):AV:=.ptr i 0
def qa1(s:qac):List AV:=[S s]
def iRow(n:Int):List AV:=[I n]
structure V where
 k:Int
 n:Int
 s:qac
def V.c(v:V):List AV:=[I v.k,I v.n,S v.s]
def V.nil:V:=⟨0,0,⟨#[]⟩⟩
structure Pr where
 key:qac
 v:V
def Pr.c(p:Pr):List AV:=[S p.key,I p.v.k,I p.v.n,S p.v.s]
inductive Ex where
 |mk (op n:Int) (s:qac) (args:List Ex)
mutual
def Ex.c:Ex→List AV
 | .mk op n s args=>[I op,I n,S s,.slice (Ex.cl args)]
def Ex.cl:List Ex→List (List AV)
 | []=>[]
 |e::l=>e.c::Ex.cl l
end
theorem Ex.cl_map:∀l,Ex.cl l=l.map Ex.c
 | []=>rfl
 |e::l=>by simp[Ex.cl,Ex.cl_map l]
def Ex.op:Ex→Int| .mk o _ _ _=>o
def Ex.n:Ex→Int| .mk _ n _ _=>n
def Ex.s:Ex→qac| .mk _ _ s _=>s
def Ex.args:Ex→List Ex| .mk _ _ _ a=>a
abbrev Ex.x(e:Ex):List AV:=[I e.op,I e.n,S e.s,.slice (e.args.map Ex.c)]
theorem Ex.c_eq(e:Ex):e.c=e.x:=by cases e;simp[Ex.c,Ex.cl_map,Ex.op,Ex.n,Ex.s,Ex.args]
inductive St where
 |mk (op:Int) (name:qac) (max:Int) (a b:Ex) (body els:List St)
mutual
def St.c:St→List AV
 | .mk op name max a b body els=>[I op,S name,I max]++a.c++b.c++[.slice (St.cl body),.slice (St.cl els)]
def St.cl:List St→List (List AV)
 | []=>[]
 |e::l=>e.c::St.cl l
end
theorem St.cl_map:∀l,St.cl l=l.map St.c
 | []=>rfl
 |e::l=>by simp[St.cl,St.cl_map l]
def St.op:St→Int| .mk o _ _ _ _ _ _=>o
def St.name:St→qac| .mk _ n _ _ _ _ _=>n
def St.max:St→Int| .mk _ _ m _ _ _ _=>m
def St.a:St→Ex| .mk _ _ _ a _ _ _=>a
def St.b:St→Ex| .mk _ _ _ _ b _ _=>b
def St.body:St→List St| .mk _ _ _ _ _ l _=>l
def St.els:St→List St| .mk _ _ _ _ _ _ l=>l
abbrev St.x(s:St):List AV:=[I s.op,S s.name,I s.max,I s.a.op,I s.a.n,S s.a.s,.slice (s.a.args.map Ex.c),I s.b.op,I s.b.n,S s.b.s,.slice (s.b.args.map Ex.c),.slice (s.body.map St.c),.slice (s.els.map St.c)]
theorem St.c_eq(s:St):s.c=s.x:=by
 cases s;simp[St.c,St.cl_map,St.op,St.name,St.max,St.a,St.b,St.body,St.els,Ex.c_eq]
structure Param where
 name:qac
 ty:Int
def Param.c(p:Param):List AV:=[S p.name,I p.ty]
structure Proc where
 name:qac
 params:List Param
 body:List St
def Proc.c(p:Proc):List AV:=[S p.name,.slice (p.params.map Param.c),.slice (p.body.map St.c)]
structure Foot where
 all:Bool
 reads:List qac
 writes:List qac
def Foot.c(f:Foot):List AV:=[Bo f.all,.slice (f.reads.map qa1),.slice (f.writes.map qa1)]
structure Eff where
 status:Int
 code:Int
 out:List V
 reads:List qac
 puts:List qac
 writes:List Pr
 miss:qac
 steps:Int
def Eff.c(e:Eff):List AV:=[I e.status,I e.code,.slice (e.out.map V.c),.slice (e.reads.map qa1),.slice (e.puts.map qa1),.slice (e.writes.map Pr.c),S e.miss,I e.steps]
theorem wrapI{n:Int}(h0:-9223372036854775808≤n)(h1:n<9223372036854775808):IntKind.i64.wrap n=n:=by
 simp[IntKind.wrap,IntKind.bits,IntKind.signed];omega
@[simp] theorem wrap_0:IntKind.i64.wrap 0=0:=by decide
@[simp] theorem wrap_1:IntKind.i64.wrap 1=1:=by decide
@[simp] theorem wrap_2:IntKind.i64.wrap 2=2:=by decide
@[simp] theorem wrap_m1:IntKind.i64.wrap (-1) = -1:=by decide
theorem wrapN{n L:Nat}(h:n≤L)(hL:L≤68719476736):IntKind.i64.wrap (n:Int)=n:=wrapI (by omega) (by omega)
theorem qaf{α:Type}{l:List α}{n:Nat}(h:n<l.length):l.drop n=l[n]::l.drop (n+1):=List.drop_eq_getElem_cons h
@[simp] theorem map_getD_row{α:Type}(f:α→List AV)(l:List α)(n:Nat)(h:n<l.length):(l.map f).getD n []=f l[n]:=by
 simp[List.getD_eq_getElem?_getD,h]
end Go.Cw

namespace Go.Cw
open Go Go.Abs
attribute [go_sem] V.nil qa1 iRow V.c Pr.c Param.c Proc.c Foot.c Eff.c bdL AV.bd
abbrev em:qac:=⟨#[]⟩
def bl(s:qac):List UInt8:=s.data.toList
def bAt(s:qac)(n:Nat):UInt8:=(bl s).getD n 0
@[simp] theorem byteAt_cast(s:qac)(n:Nat):byteAt s (n:Int)=bAt s n:=rfl
theorem bdrop{s:qac}{n:Nat}(h:n<s.size):(bl s).drop n=bAt s n::(bl s).drop (n+1):=by
 have h':n<(bl s).length:=h;rw[List.drop_eq_getElem_cons h'];rw[bAt,List.getD_eq_getElem?_getD,List.getElem?_eq_getElem h',Option.getD_some]
theorem bend{s:qac}{n:Nat}(h:¬n<s.size):(bl s).drop n=[]:=by
 refine List.drop_eq_nil_of_le ?_;have h':¬n<(bl s).length:=h;omega
def allL{α:Type}(p:α→Bool):List α→Bool
 | []=>true
 |x::l=>p x&&allL p l
theorem allL_iff{α:Type}{p:α→Bool}:∀{l:List α},allL p l=true↔∀x,x∈l→p x=true
 | []=>by simp[allL]
 |x::l=>by simp[allL,allL_iff (l:=l)]
theorem sz_em(s:qac):s=em∨1≤(s.size:Int):=by
 rcases s with⟨⟨l⟩⟩;cases l with
 |nil=>exact .inl rfl
 |cons x l=>refine .inr ?_;simp[ByteArray.size];omega
def okB(b:UInt8):Bool:=!(decide ((b.toNat:Int)<32)||decide ((126:Int)<b.toNat))
def qa3(s:qac):Bool:=allL okB (bl s)&&decide ((s.size:Int)≤64)
def keyB(b:UInt8):Bool :=
 (decide ((97:Int)≤b.toNat)&&decide ((b.toNat:Int)≤122))||(decide ((48:Int)≤b.toNat)&&decide ((b.toNat:Int)≤57))||decide ((b.toNat:Int)=47)||decide ((b.toNat:Int)=46)||decide ((b.toNat:Int)=95)||decide ((b.toNat:Int)=45)
def keyOk(s:qac):Bool:=!decide (s=em)&&decide ((s.size:Int)≤24)&&allL keyB (bl s)
def valOk(k n:Int)(s:qac):Bool:=if k=0 then decide (n=0)&&decide (s=em)else if k=1 then decide (s=em)else if k=2 then decide (n=0)&&qa3 s else false
def varOk(k n:Int)(s:qac):Bool:=if k=3 then(decide (n=0)||decide (n=1))&&decide (s=em)else !decide (k=0)&&valOk k n s
def after:Option qac→qac→Bool
 |none,_=>true
 |some p,k=>sLt p k
def ascK:Option qac→List qac→Bool
 |_,[]=>true
 |prev,k::l=>keyOk k&&after prev k&&ascK (some k) l
def qcu{α:Type}(l:List α)(n:Nat):Option α:=if n=0 then none else l[n-1]?
def footOk(all:Bool)(r w:List qac):Bool:=if all then decide (r.length=0)&&decide (w.length=0)else(ascK none r&&decide ((r.length:Int)≤64))&&(ascK none w&&decide ((w.length:Int)≤64))
theorem bl_irrefl:∀a:List UInt8,Op.bytesLess a a=false
 | []=>rfl
 |x::a=>by simp[Op.bytesLess,bl_irrefl a]
theorem bl_trans:∀{a b c:List UInt8},Op.bytesLess a b=true→Op.bytesLess b c=true→Op.bytesLess a c=true
 |_,_,[],_,h=>by rename_i b _;cases b<;>simp[Op.bytesLess]at h
 |_,[],_,h,_=>by rename_i a _ _;cases a<;>simp[Op.bytesLess]at h
 | [],_::_,_::_,_,_=>by simp[Op.bytesLess]
 |x::a,y::b,z::c,h,k=>by
  simp only[Op.bytesLess,Bool.or_eq_true,Bool.and_eq_true,decide_eq_true_eq,beq_iff_eq]at h k⊢;rcases h with h|⟨rfl,h⟩
  ·rcases k with k|⟨rfl,k⟩
   ·exact .inl (UInt8.lt_trans h k)
   ·exact .inl h
  ·rcases k with k|⟨rfl,k⟩
   ·exact .inl k
   ·exact .inr ⟨rfl,bl_trans h k⟩
theorem bl_tri:∀a b:List UInt8,Op.bytesLess a b = !(Op.bytesLess b a||a == b)
 | [],[]=>by simp[Op.bytesLess]
 | [],_::_=>by simp[Op.bytesLess]
 |_::_,[]=>by simp[Op.bytesLess]
 |x::a,y::b=>by
  have ih:=bl_tri a b;simp only[Op.bytesLess];by_cases h:x=y
  ·subst h;simp[ih,UInt8.lt_irrefl]
  ·have h':¬y=x:=fun e=>h e.symm;rcases UInt8.lt_or_lt_of_ne h with h1|h1
   ·simp[h,h',h1,UInt8.lt_asymm h1]
   ·simp[h,h',h1,UInt8.lt_asymm h1]
theorem sLt_irrefl(a:qac):sLt a a=false:=bl_irrefl _
theorem sLt_trans{a b c:qac}(h:sLt a b=true)(k:sLt b c=true):sLt a c=true:=bl_trans h k
theorem sLt_tri(a b:qac):sLt a b = !(sLt b a||decide (a=b)):=by
 unfold sLt;rw[bl_tri,toList_inj]
theorem sLt_ne{a b:qac}(h:sLt a b=true):¬a=b:=by
 rintro rfl;rw[sLt_irrefl]at h;cases h
theorem sLe_not(a b:qac):(sLt b a||decide (b=a)) = !sLt a b:=by
 rw[sLt_tri a b,Bool.not_not];congr 1;exact decide_eq_decide.2 ⟨Eq.symm,Eq.symm⟩
def qed{α:Type}(p:α→Bool):Nat→List α→Int
 |_,[]=>-1
 |n,x::l=>if p x then n else qed p (n+1) l
def idxOf{α:Type}(p:α→Bool)(l:List α):Int:=qed p 0 l
def anyL{α:Type}(p:α→Bool):List α→Bool
 | []=>false
 |x::l=>p x||anyL p l
theorem idxFrom_nonneg{α:Type}(p:α→Bool):∀(l:List α) (n:Nat),decide (0≤qed p n l)=anyL p l
 | [],n=>by simp[qed,anyL]
 |x::l,n=>by
  simp only[qed,anyL];by_cases h:p x=true
  ·simp[h]
  ·have:=idxFrom_nonneg p l (n+1);simp only[h,if_false,this,Bool.false_or,Bool.false_eq_true]
theorem idxOf_nonneg{α:Type}(p:α→Bool)(l:List α):decide (0≤idxOf p l)=anyL p l:=idxFrom_nonneg p l 0
def sortedP:Option qac→List Pr→Bool
 |_,[]=>true
 |prev,p::l=>keyOk p.key&&valOk p.v.k p.v.n p.v.s&&after prev p.key&&sortedP (some p.key) l
def qb7(l:List Pr):Bool:=sortedP none l&&!anyL (fun p=>decide (p.v.k=0)) l
def getP:List Pr→qac→V
 | [],_=>V.nil
 |p::l,k=>if p.key=k then p.v else getP l k
def ascP:Option qac→List Pr→Bool
 |_,[]=>true
 |prev,p::l=>keyOk p.key&&after prev p.key&&ascP (some p.key) l
def hasP(l:List Pr)(k:qac):Bool:=anyL (fun p=>decide (p.key=k)) l
def valsOk(l:List Pr):Bool:=allL (fun p=>valOk p.v.k p.v.n p.v.s) l
def writesOk(l:List Pr):Bool:=valsOk l&&ascP none l
def stateOkR(l:List Pr):Bool:=!anyL (fun p=>decide (p.v.k=0)) l&&writesOk l
theorem sortedP_eq:∀(l:List Pr) (prev:Option qac),sortedP prev l=(valsOk l&&ascP prev l)
 | [],_=>rfl
 |p::l,prev=>by
  simp only[sortedP,valsOk,allL,ascP];rw[sortedP_eq l];simp only[valsOk];generalize keyOk p.key=a;generalize valOk p.v.k p.v.n p.v.s=b;generalize after prev p.key=c;generalize allL _ l=d;generalize ascP _ l=e;cases a<;>cases b<;>cases c<;>cases d<;>rfl
theorem stateOkR_eq(l:List Pr):stateOkR l=qb7 l:=by
 simp only[stateOkR,qb7,writesOk,sortedP_eq];rw[Bool.and_comm]
def posP(k:qac):List Pr→Nat
 | []=>0
 |p::l=>if sLt p.key k then posP k l+1 else 0
def withP(l:List Pr)(p:Pr):List Pr:=l.take (posP p.key l)++p::l.drop (posP p.key l)
def keepP(w:List Pr):List Pr→List Pr
 | []=>[]
 |p::l=>if hasP w p.key then keepP w l else p::keepP w l
def addP:List Pr→List Pr→List Pr
 |out,[]=>out
 |out,p::l=>if p.v.k=0 then addP out l else addP (withP out p) l
def applyP(l w:List Pr):List Pr:=addP (keepP w l) w
def sameL{α:Type}(f:α→α→Bool):List α→List α→Bool
 | [],[]=>true
 |x::l,y::l'=>f x y&&sameL f l l'
 |_,_=>false
def eqVal(a b:V):Bool:=decide (a.k=b.k)&&(decide (a.n=b.n)&&decide (a.s=b.s))
def eqP(a b:Pr):Bool:=decide (a.key=b.key)&&eqVal a.v b.v
def eqB(a b:qac):Bool:=decide (a=b)
theorem sameL_len{α:Type}{f:α→α→Bool}:∀{l l':List α},l.length≠l'.length→sameL f l l'=false
 | [],[],h=>(h rfl).elim
 | [],_::_,_=>rfl
 |_::_,[],_=>rfl
 |x::l,y::l',h=>by simp[sameL,sameL_len (l:=l) (l':=l') (by simpa using h)]
theorem posP_le(k:qac):∀l,posP k l≤l.length
 | []=>Nat.le_refl _
 |p::l=>by
  simp only[posP];split
  ·simpa using posP_le k l
  ·simp
@[simp] theorem em_size:ByteArray.size em=0:=rfl
def qd1(l:List qac)(k:qac):Bool:=anyL (fun x=>decide (x=k)) l
theorem qa2{n L:Nat}(h:n≤L)(hL:L≤68719476736):IntKind.i64.wrap ((n:Int)+1)=(n:Int)+1:=wrapI (by omega) (by omega)
section
variable {P:Program} {E:Ent} {Q:AExit→Env→Prop} {e:Env}
theorem qap{α:Type}{b:Code}(L:Nat)(inv:Nat→α→Prop)(S:Nat→α→Env)(a0:α)(h0:inv 0 a0)(hw:Wk E e (S 0 a0))
  (step:∀n a,n≤L→inv n a→wpC P E b (AExit.then (fun e'=>n<L∧∃a',inv (n+1) a'∧Wk E e' (S (n+1) a')) Q) (S n a)):AWp P E (.loop b) Q e :=
 awp_loop (ι:=Nat×α) (I:=fun x=>x.1≤L∧inv x.1 x.2) (S:=fun x=>S x.1 x.2) (μ:=fun x=>L - x.1) (0,a0) ⟨Nat.zero_le _,h0⟩ hw fun x ⟨hn,hI⟩ =>
  (qay _ _ _ (step x.1 x.2 hn hI)).mono fun y e' hx=>by
   cases y with
   |normal =>
    obtain⟨h1,a',h2,h3⟩:=hx;exact⟨(x.1+1,a'),⟨h1,h2⟩,by simp only;omega,h3⟩
   |_=>exact hx
theorem qam{b:Code}(L:Nat)(inv:Nat→Prop)(S:Nat→Env)(h0:inv 0)(hw:Wk E e (S 0))
  (step:∀n,n≤L→inv n→wpC P E b (AExit.then (fun e'=>n<L∧inv (n+1)∧Wk E e' (S (n+1))) Q) (S n)):AWp P E (.loop b) Q e :=
 awp_loop (ι:=Nat) (I:=fun n=>n≤L∧inv n) (S:=S) (μ:=fun n=>L - n) 0 ⟨Nat.zero_le _,h0⟩ hw fun n ⟨hn,hI⟩ =>
  (qay _ _ _ (step n hn hI)).mono fun x e' hx=>by
   cases x with
   |normal=>exact⟨n+1,⟨hx.1,hx.2.1⟩,by have:=hx.1;omega,hx.2.2⟩
   |_=>exact hx
end
end Go.Cw

namespace Go.Cw
open Go Go.Abs
attribute [go_sem] Ex.c_eq St.c_eq Ex.x St.x
@[simp] theorem byteAt_zero(s:qac):byteAt s 0=bAt s 0:=rfl
@[simp] theorem wrap32_byte(b:UInt8):IntKind.i32.wrap (b.toNat:Int)=b.toNat:=by
 have:=b.toNat_lt;simp[IntKind.wrap,IntKind.bits,IntKind.signed];omega
def ltr(c:Int):Bool:=decide (97≤c)&&decide (c≤122)
def wordI(c:Int):Bool:=ltr c||(decide (48≤c)&&decide (c≤57))||decide (c=95)
def wordLen:List UInt8→Nat
 | []=>0
 |b::l=>if wordI b.toNat then wordLen l+1 else 0
def kw(s:qac):Bool :=
 decide (s=⟨#[112,114,111,99]⟩)||decide (s=⟨#[108,101,116]⟩)||decide (s=⟨#[112,117,116]⟩)||decide (s=⟨#[100,101,108,101,116,101]⟩)||decide (s=⟨#[105,102]⟩)||decide (s=⟨#[101,108,115,101]⟩)||decide (s=⟨#[102,111,114]⟩)||decide (s=⟨#[116,111]⟩)||decide (s=⟨#[109,97,120]⟩)||decide (s=⟨#[101,109,105,116]⟩)||decide (s=⟨#[97,98,111,114,116]⟩)||decide (s=⟨#[110,111,116]⟩)||decide (s=⟨#[97,110,100]⟩)||decide (s=⟨#[111,114]⟩)||decide (s=⟨#[105,110,116]⟩)||decide (s=⟨#[115,116,114]⟩)||decide (s=⟨#[98,111,111,108]⟩)||decide (s=⟨#[116,101,120,116]⟩)||decide (s=⟨#[108,101,110]⟩)||decide (s=⟨#[103,101,116,105,110,116]⟩)||decide (s=⟨#[103,101,116,115,116,114]⟩)||decide (s=⟨#[104,97,115]⟩)||decide (s=⟨#[110,111,119]⟩)||decide (s=⟨#[114,97,110,100,111,109]⟩)||decide (s=⟨#[110,111,100,101]⟩)
def nameOk(s:qac):Bool:=!decide (s=em)&&decide ((s.size:Int)≤16)&&ltr (bAt s 0).toNat&&decide ((wordLen (bl s):Int)=s.size)&&!kw s
def qb0(op:Int):Int:=if op<1∨27<op then -1 else if op≤3∨25≤op then 0 else if op=9∨op=18∨20≤op then 1 else 2
def qcb(op n:Int)(s:qac)(k:Nat)(d:Int):Int :=
 if qb0 op<0∨(op≠1∧n≠0)∨(op≠2∧op≠3∧s≠em)then 1
 else if op=3∧nameOk s=false then 7
 else if (op=1∧n<0)∨(op=2∧qa3 s=false)∨(k:Int)≠qb0 op then 1
 else if 12<d then 2 else 0
mutual
def chkE:Ex→Nat→Int
 | .mk op n s args,d=>if qcb op n s args.length d=0 then chkL args (d+1)else qcb op n s args.length d
def chkL:List Ex→Nat→Int
 | [],_=>0
 |e::l,d=>if chkE e d=0 then chkL l d else chkE e d
end
theorem chkE_eq(e:Ex)(d:Nat):chkE e d=if qcb e.op e.n e.s e.args.length d=0 then chkL e.args (d+1)else qcb e.op e.n e.s e.args.length d:=by
 cases e with
 |mk o n s a=>rw[chkE];rfl
theorem Ex.arg_lt{e x:Ex}(h:x∈e.args):SizeOf.sizeOf x<SizeOf.sizeOf e:=by
 cases e with
 |mk o n s a =>
  have:=List.sizeOf_lt_of_mem (show x∈a from h);simp only[Ex.mk.sizeOf_spec];omega
structure Uses where
 name:Bool
 a:Bool
 b:Bool
 max:Bool
 body:Bool
 other:Bool
def Uses.c(u:Uses):List AV:=[Bo u.name,Bo u.a,Bo u.b,Bo u.max,Bo u.body,Bo u.other]
attribute [go_sem] Uses.c
def qa8(op:Int):Uses×Bool :=
 if op=1∨op=2 then(⟨true,true,false,false,false,false⟩,true)
 else if op=3 then(⟨false,true,true,false,false,false⟩,true)
 else if op=4∨op=7 then(⟨false,true,false,false,false,false⟩,true)
 else if op=5 then(⟨false,true,false,false,true,true⟩,true)
 else if op=6 then(⟨true,true,true,true,true,false⟩,true)
 else if op=8 then(⟨false,false,false,true,false,false⟩,true)
 else(⟨false,false,false,false,false,false⟩,false)
def absE(e:Ex):Bool:=decide (e.op=0)&&decide (e.n=0)&&decide (e.s=em)&&decide (e.args.length=0)
def qb9(s:St)(u:Uses):Bool :=
 !((!u.name&&!decide (s.name=em))||(!u.a&&!absE s.a)||(!u.b&&!absE s.b)||(!u.max&&!decide (s.max=0))||(!u.body&&decide (0<s.body.length))||(!u.other&&decide (0<s.els.length))) &&
 (if s.op=6 then decide (1≤s.max)&&decide (s.max≤16)else if s.op=8 then decide (0≤s.max)&&decide (s.max≤999)else true)
def qbo(s:St)(d:Int):Int :=
 let u:=(qa8 s.op).1
 if (qa8 s.op).2=false∨qb9 s u=false then 1
 else if u.name=true∧nameOk s.name=false then 7
 else if u.a=true∧chkE s.a 1≠0 then chkE s.a 1
 else if u.b=true∧chkE s.b 1≠0 then chkE s.b 1
 else if 12<d then 2 else 0
def qc4:List Param→List Param→Int
 |_,[]=>0
 |pre,p::l=>if nameOk p.name=false then 7 else if p.ty<1∨3<p.ty then 10 else if anyL (fun q=>decide (q.name=p.name)) pre then 8 else qc4 (pre++[p]) l
def paramsE(l:List Param):Int:=if 6<l.length then 2 else qc4 [] l
theorem dec_lo{s:qac}{p:Nat}(h:p<s.size)(hb:(bAt s p).toNat<128):Utf8.decode s p=((bAt s p).toNat,1):=by
 have e:s.get! p=bAt s p:=by
  have h':p<s.data.size:=h;simp[ByteArray.get!,bAt,bl,List.getD_eq_getElem?_getD,Array.getElem!_eq_getD,Array.getD];rw[dif_pos h,Array.getElem?_eq_getElem h',Option.getD_some]
 unfold Utf8.decode;simp only[Nat.add_zero,e];rw[if_pos hb]
theorem dec_hi{s:qac}{p:Nat}(h:p<s.size)(hb:¬(bAt s p).toNat<128):128≤(Utf8.decode s p).1:=by
 have e:s.get! p=bAt s p:=by
  have h':p<s.data.size:=h;simp[ByteArray.get!,bAt,bl,List.getD_eq_getElem?_getD,Array.getElem!_eq_getD,Array.getD];rw[dif_pos h,Array.getElem?_eq_getElem h',Option.getD_some]
 unfold Utf8.decode;simp only[Nat.add_zero,e];rw[if_neg hb];split
 ·split
  ·assumption
  ·simp[Utf8.runeError]
 ·split
  ·split
   ·rename_i h1;simp only[Bool.and_eq_true,decide_eq_true_eq]at h1;omega
   ·simp[Utf8.runeError]
  ·split
   ·split
    ·rename_i h1;simp only[Bool.and_eq_true,decide_eq_true_eq]at h1;omega
    ·simp[Utf8.runeError]
   ·simp[Utf8.runeError]
end Go.Cw

namespace Go.Cw
open Go Go.Abs
mutual
def exW:Ex→Nat→Nat
 | .mk _ _ _ args,left=>if left=0 then 0 else exWL args (left - 1)
def exWL:List Ex→Nat→Nat
 | [],n=>n
 |e::l,n=>exWL l (exW e n)
end
theorem exW_eq(e:Ex)(n:Nat):exW e n=if n=0 then 0 else exWL e.args (n - 1):=by
 cases e with
 |mk o k s a=>rw[exW];rfl
mutual
theorem exW_le:∀(e:Ex) (n:Nat),exW e n≤n
 | .mk _ _ _ args,n=>by
  rw[exW];split
  ·omega
  ·have:=exWL_le args (n - 1);omega
theorem exWL_le:∀(l:List Ex) (n:Nat),exWL l n≤n
 | [],n=>by rw[exWL];omega
 |e::l,n=>by
  rw[exWL];have:=exWL_le l (exW e n);have:=exW_le e n;omega
end
theorem exW_lt(e:Ex){n:Nat}(h:n≠0):exW e n<n:=by
 rw[exW_eq,if_neg h];have:=exWL_le e.args (n - 1);omega
section
variable {σ:Type} (fS:σ→St→Nat→σ) (fR:σ→Ex→σ)
def qbz(e:Ex)(x:Nat×σ):Nat×σ:=if x.1=0∨absE e=true then x else(exW e x.1,fR x.2 e)
mutual
def stW:St→Nat→Nat×σ→Nat×σ
 | .mk _ _ _ a b body els,d,x=>blkW els (d+1) (blkW body (d+1) (qbz fR b (qbz fR a x)))
def blkW:List St→Nat→Nat×σ→Nat×σ
 | [],_,x=>x
 |s::l,d,x=>if x.1=0 then x else blkW l d (stW s d (x.1 - 1,fS x.2 s d))
end
theorem stW_eq(s:St)(d:Nat)(x:Nat×σ):stW fS fR s d x=blkW fS fR s.els (d+1) (blkW fS fR s.body (d+1) (qbz fR s.b (qbz fR s.a x))):=by
 cases s;rw[stW];rfl
theorem firstW_le(e:Ex)(x:Nat×σ):(qbz fR e x).1≤x.1:=by
 unfold qbz;split
 ·omega
 ·exact exW_le _ _
mutual
theorem stW_le:∀(s:St) (d:Nat) (x:Nat×σ),(stW fS fR s d x).1≤x.1
 | .mk _ _ _ a b body els,d,x=>by
  rw[stW];have h1:=blkW_le els (d+1) (blkW fS fR body (d+1) (qbz fR b (qbz fR a x)));have h2:=blkW_le body (d+1) (qbz fR b (qbz fR a x));have h3:=firstW_le fR b (qbz fR a x);have h4:=firstW_le fR a x;omega
theorem blkW_le:∀(l:List St) (d:Nat) (x:Nat×σ),(blkW fS fR l d x).1≤x.1
 | [],d,x=>by rw[blkW];omega
 |s::l,d,x=>by
  rw[blkW];split
  ·omega
  ·have h1:=blkW_le l d (stW fS fR s d (x.1 - 1,fS x.2 s d));have h2:=stW_le s d (x.1 - 1,fS x.2 s d);simp only at h2;omega
end
section
variable (K:σ→Nat) (hS:∀s t d,K (fS s t d)≤K s+1) (hR:∀s e,K (fR s e)≤K s+1)
include hR in
theorem firstW_K(e:Ex)(x:Nat×σ):K (qbz fR e x).2+(qbz fR e x).1≤K x.2+x.1:=by
 unfold qbz;split
 ·omega
 ·rename_i h;have h0:x.1≠0:=fun h1=>h (.inl h1);have h1:=exW_lt e h0;have h2:=hR x.2 e;simp only;omega
include hS hR in
mutual
theorem stW_K:∀(s:St) (d:Nat) (x:Nat×σ),K (stW fS fR s d x).2+(stW fS fR s d x).1≤K x.2+x.1
 | .mk _ _ _ a b body els,d,x=>by
  rw[stW];have h1:=blkW_K els (d+1) (blkW fS fR body (d+1) (qbz fR b (qbz fR a x)));have h2:=blkW_K body (d+1) (qbz fR b (qbz fR a x));have h3:=firstW_K fR K hR b (qbz fR a x);have h4:=firstW_K fR K hR a x;omega
theorem blkW_K:∀(l:List St) (d:Nat) (x:Nat×σ),K (blkW fS fR l d x).2+(blkW fS fR l d x).1≤K x.2+x.1
 | [],d,x=>by rw[blkW];omega
 |s::l,d,x=>by
  rw[blkW];split
  ·omega
  ·have h1:=blkW_K l d (stW fS fR s d (x.1 - 1,fS x.2 s d));have h2:=stW_K s d (x.1 - 1,fS x.2 s d);have h3:=hS x.2 s d;simp only at h2;omega
end
end
end
theorem St.body_le(s:St):SizeOf.sizeOf s.body<SizeOf.sizeOf s:=by
 cases s;simp only[St.mk.sizeOf_spec,St.body];omega
theorem St.els_le(s:St):SizeOf.sizeOf s.els<SizeOf.sizeOf s:=by
 cases s;simp only[St.mk.sizeOf_spec,St.els];omega
structure WH{σ:Type}(P:Program)(w:Nat)(fs fr:FuncId)(cs cr:List AV)(H:Nat→σ→qab)(fS:σ→St→Nat→σ)(fR:σ→Ex→σ)(n0:Nat)(K:σ→Nat)(M:Nat):Prop where
 len:∀left s,(H left s).length=n0
 lt:w<n0
 look:∀(left:Nat) s,(H left s)[w]?=some (.cells [I left,.fn (.func fs) [] cs,.fn (.func fr) [] cr])
 set:∀(left left':Nat) s,(H left s).set w (.cells [I left',.fn (.func fs) [] cs,.fn (.func fr) [] cr])=H left' s
 und:∀left s,hUnder n0 (H left s)=true
 ncs:∀h,qbi h cs=cs
 ncr:∀h,qbi h cr=cr
 hS:∀s t d,K (fS s t d)≤K s+1
 hR:∀s e,K (fR s e)≤K s+1
 stmt:∀left s L (t:St) (d:Nat),K s+left+1≤M→ACalls P fs ([.agg t.x,I d]++cs) (H left s++L) fun r h'=>r=.ret (.tuple [])∧h'=H left (fS s t d)++L
 root:∀left s L (e:Ex),K s+left≤M→left≠0→ACalls P fr ([.agg e.x]++cr) (H left s++L) fun r h'=>r=.ret (.tuple [])∧h'=H left (fR s e)++L
theorem WH.w'{σ:Type}{P:Program}{w:Nat}{fs fr:FuncId}{cs cr:List AV}{H:Nat→σ→qab}{fS:σ→St→Nat→σ}{fR:σ→Ex→σ}{n0:Nat}{K:σ→Nat}{M:Nat}(W:WH P w fs fr cs cr H fS fR n0 K M)(left:Nat)(s:σ)(l:qab) :
  (H left s++l)[w]?=some (.cells [I left,.fn (.func fs) [] cs,.fn (.func fr) [] cr]):=by
 rw[List.getElem?_append_left (by rw[W.len];exact W.lt)];exact W.look left s
theorem WH.set'{σ:Type}{P:Program}{w:Nat}{fs fr:FuncId}{cs cr:List AV}{H:Nat→σ→qab}{fS:σ→St→Nat→σ}{fR:σ→Ex→σ}{n0:Nat}{K:σ→Nat}{M:Nat}(W:WH P w fs fr cs cr H fS fR n0 K M)(left left':Nat)(s:σ)(l:qab) :
  (H left s++l).set w (.cells [I left',.fn (.func fs) [] cs,.fn (.func fr) [] cr])=H left' s++l:=by
 rw[List.set_append_left _ _ (by rw[W.len];exact W.lt),W.set]
section
variable {σ:Type} {P:Program} {w:Nat} {fs fr:FuncId} {cs cr:List AV} {H:Nat→σ→qab} {fS:σ→St→Nat→σ} {fR:σ→Ex→σ} {n0:Nat} {K:σ→Nat} {M:Nat}
theorem WH.und'(W:WH P w fs fr cs cr H fS fR n0 K M)(left:Nat)(s:σ):hUnder (H left s).length (H left s)=true:=by rw[W.len];exact W.und left s
theorem WH.ext(W:WH P w fs fr cs cr H fS fR n0 K M)(L:qab)(hL:hUnder (n0+L.length) L=true):WH P w fs fr cs cr (fun left s=>H left s++L) fS fR (n0+L.length) K M where
 len:=fun left s=>by rw[List.length_append,W.len]
 lt:=by have:=W.lt;omega
 look:=fun left s=>W.w' left s L
 set:=fun left left' s=>W.set' left left' s L
 und:=fun left s=>by rw[qar,qau (by omega) (W.und left s),hL];rfl
 ncs:=W.ncs
 ncr:=W.ncr
 hS:=W.hS
 hR:=W.hR
 stmt:=fun left s L' t d hk=>by simpa[List.append_assoc]using W.stmt left s (L++L') t d hk
 root:=fun left s L' e hk h0=>by simpa[List.append_assoc]using W.root left s (L++L') e hk h0
theorem WH.loc0(W:WH P w fs fr cs cr H fS fR n0 K M)(left:Nat)(s:σ)(x:AObj)(l:qab):(H left s++x::l)[n0]?=some x:=by
 rw[List.getElem?_append_right (by rw[W.len];omega),W.len,Nat.sub_self];rfl
theorem WH.loc1(W:WH P w fs fr cs cr H fS fR n0 K M)(left:Nat)(s:σ)(x y:AObj)(l:qab):(H left s++x::y::l)[n0+1]?=some y:=by
 rw[List.getElem?_append_right (by rw[W.len];omega),W.len,show n0+1 - n0=1 by omega];rfl
theorem WH.set0(W:WH P w fs fr cs cr H fS fR n0 K M)(left:Nat)(s:σ)(x y:AObj)(l:qab):(H left s++x::l).set n0 y=H left s++y::l:=by
 rw[List.set_append_right _ _ (by rw[W.len];omega),W.len,Nat.sub_self];rfl
theorem WH.set1(W:WH P w fs fr cs cr H fS fR n0 K M)(left:Nat)(s:σ)(x y z:AObj)(l:qab):(H left s++x::y::l).set (n0+1) z=H left s++x::z::l:=by
 rw[List.set_append_right _ _ (by rw[W.len];omega),W.len,show n0+1 - n0=1 by omega];rfl
end
structure CB{σ:Type}(P:Program)(fs fr:FuncId)(cs cr:List AV)(H:σ→qab)(fS:σ→St→Nat→σ)(fR:σ→Ex→σ)(n0:Nat)(K:σ→Nat)(M:Nat):Prop where
 len:∀s,(H s).length=n0
 und:∀s,hUnder n0 (H s)=true
 ucs:qao n0 cs=true
 ucr:qao n0 cr=true
 ncs:∀h,qbi h cs=cs
 ncr:∀h,qbi h cr=cr
 hS:∀s t d,K (fS s t d)≤K s+1
 hR:∀s e,K (fR s e)≤K s+1
 stmt:∀s L (t:St) (d:Nat),K s+1≤M→ACalls P fs ([.agg t.x,I d]++cs) (H s++L) fun r h'=>r=.ret (.tuple [])∧h'=H (fS s t d)++L
 root:∀s L (e:Ex),K s+1≤M→ACalls P fr ([.agg e.x]++cr) (H s++L) fun r h'=>r=.ret (.tuple [])∧h'=H (fR s e)++L
theorem CB.walk{σ:Type}{P:Program}{fs fr:FuncId}{cs cr:List AV}{H:σ→qab}{fS:σ→St→Nat→σ}{fR:σ→Ex→σ}{n0:Nat}{K:σ→Nat}{M:Nat}(B:CB P fs fr cs cr H fS fR n0 K M)(o:AObj)(ho:o.under n0=true) :
  WH P (n0+1) fs fr cs cr (fun left s=>H s++[o,.cells [I left,.fn (.func fs) [] cs,.fn (.func fr) [] cr]]) fS fR (n0+2) K M where
 len:=fun left s=>by simp[B.len]
 lt:=by omega
 look:=fun left s=>by
  rw[List.getElem?_append_right (by rw[B.len];omega),B.len,show n0+1 - n0=1 by omega];rfl
 set:=fun left left' s=>by
  rw[List.set_append_right _ _ (by rw[B.len];omega),B.len,show n0+1 - n0=1 by omega];rfl
 und:=fun left s=>by
  have h1:hUnder (n0+2) [o]=true:=qau (n:=n0) (by omega) (by simp[hUnder,ho]);have h2:=qci (show n0≤n0+2 by omega) cs B.ucs;have h3:=qci (show n0≤n0+2 by omega) cr B.ucr;rw[qar,qau (by omega) (B.und s),Bool.true_and];simp only[hUnder,Bool.and_true]at h1;simp only[hUnder,h1,Bool.true_and,Bool.and_true];show qao _ _=true;simp[qao,AV.under,h2,h3]
 ncs:=B.ncs
 ncr:=B.ncr
 hS:=B.hS
 hR:=B.hR
 stmt:=fun left s L t d hk=>by simpa[List.append_assoc]using B.stmt s ([o,.cells [I left,.fn (.func fs) [] cs,.fn (.func fr) [] cr]]++L) t d (by omega)
 root:=fun left s L e hk h0=>by simpa[List.append_assoc]using B.root s ([o,.cells [I left,.fn (.func fs) [] cs,.fn (.func fr) [] cr]]++L) e (by omega)
def valS(d0:Int)(t:St)(d:Nat):Int:=if d0=0 then qbo t d else d0
def qb2{σ:Type}(s:σ)(_:Ex):σ:=s
def keepS{σ:Type}(s:σ)(_:St)(_:Nat):σ:=s
def qcn(p:Proc):Int :=
 if nameOk p.name=false then 7
 else if paramsE p.params≠0 then paramsE p.params
 else
  let x:=blkW valS qb2 p.body 1 (401,(0:Int))
  if x.2=0∧x.1=0 then 2 else x.2
def nameS(l:List qac)(t:St)(_:Nat):List qac:=if t.op=1∨t.op=6 then l++[t.name]else l
def qd4(p:Proc):List qac:=(blkW nameS qb2 p.body 1 (401,p.params.map (·.name))).2
def exprR(l:List Ex)(e:Ex):List Ex:=l++[e]
def qcc(p:Proc):List Ex:=(blkW keepS exprR p.body 1 (401,[])).2
theorem nameS_len(l:List qac)(t:St)(d:Nat):(nameS l t d).length≤l.length+1:=by
 unfold nameS;split<;>simp
end Go.Cw

namespace Go.Cw
open Go Go.Abs
def qcm(op:Int):Int×Int :=
 if op=1∨op=25∨op=26∨op=27∨op=4∨op=5∨op=6∨op=7∨op=8∨op=9 then(1,1)
 else if op=2∨op=19∨op=23 then(2,2)
 else if op=16∨op=17∨op=18 then(3,3)
 else if op=20 then(1,2)
 else if op=21∨op=22 then(2,1)
 else(2,3)
def cmpOk(op ty:Int):Bool:=!decide (ty=3)||decide (op=10)||decide (op=11)
def nonDet(op:Int):Bool:=decide (op=25)||decide (op=26)||decide (op=27)
abbrev W64(n:Int):Int:=IntKind.i64.wrap n
def qdn(a:Int):Int×Int:=if a = -9223372036854775808 then(0,3)else(W64 (-a),0)
def numAdd(a b:Int):Int×Int:=if (0<b∧W64 (a+b)<a)∨(b<0∧a<W64 (a+b))then(0,3)else(W64 (a+b),0)
def qb4(a b:Int):Int×Int:=if (0<b∧a<W64 (a - b))∨(b<0∧W64 (a - b)<a)then(0,3)else(W64 (a - b),0)
def numMul(a b:Int):Int×Int :=
 if a=0∨b=0 then(0,0)else if a = -1 then qdn b else if b = -1 then qdn a
 else if W64 ((W64 (a * b)).tdiv b)≠a then(0,3)else(W64 (a * b),0)
def numDiv(a b:Int):Int×Int :=
 if b=0 then(0,4)else if b = -1 then qdn a
 else if a.tmod b≠0∧decide (a<0)≠decide (b<0)then(W64 (W64 (a.tdiv b) - 1),0)else(W64 (a.tdiv b),0)
def numMod(a b:Int):Int×Int :=
 if b=0 then(0,4)else if b = -1 then(0,0)
 else if a.tmod b≠0∧decide (a.tmod b<0)≠decide (b<0)then(W64 (a.tmod b+b),0)else(a.tmod b,0)
def cmpI(a b:Int):Int:=if a<b then -1 else if b<a then 1 else 0
def cmpS(a b:qac):Int:=Go.Lib.compareBytes a.data.toList b.data.toList
def cmpV(u v:V):Int:=if u.k≠v.k then cmpI u.k v.k else if u.n=v.n then cmpS u.s v.s else cmpI u.n v.n
def kAV{α:Type}(f:α→AV)(l:List (qac×α)):List (AV×AV):=qb5 (l.map fun p=>(p.1,f p.2))
def qbg{α:Type}:List (qac×α)→qac→Option α
 | [],_=>none
 |p::l,s=>if p.1=s then some p.2 else qbg l s
def qbr{α:Type}:List (qac×α)→qac→α→List (qac×α)
 | [],s,v=>[(s,v)]
 |p::l,s,v=>if p.1=s then(s,v)::l else p::qbr l s v
def kDel{α:Type}:List (qac×α)→qac→List (qac×α)
 | [],_=>[]
 |p::l,s=>if p.1=s then l else p::kDel l s
@[simp] theorem strKeys_kAV{α:Type}(f:α→AV)(l:List (qac×α)):strKeys (kAV f l)=some (l.map fun p=>(p.1,f p.2)):=by
 induction l with
 |nil=>rfl
 |cons p l ih =>
  simp only[kAV,qb5,List.map_cons,strKeys]at ih⊢;rw[ih];rfl
@[simp] theorem kvGet_map{α:Type}(f:α→AV)(l:List (qac×α))(s:qac):kvGet (l.map fun p=>(p.1,f p.2)) s=(qbg l s).map f:=by
 induction l with
 |nil=>rfl
 |cons p l ih =>
  simp only[List.map_cons,kvGet,qbg,ih];split<;>rfl
@[simp] theorem kvSet_map{α:Type}(f:α→AV)(l:List (qac×α))(s:qac)(v:α):qb5 (kvSet (l.map fun p=>(p.1,f p.2)) s (f v))=kAV f (qbr l s v):=by
 rw[kAV];congr 1
 induction l with
 |nil=>rfl
 |cons p l ih =>
  simp only[List.map_cons,kvSet,qbr,ih];split<;>rfl
@[simp] theorem kvDel_map{α:Type}(f:α→AV)(l:List (qac×α))(s:qac):qb5 (kvDel (l.map fun p=>(p.1,f p.2)) s)=kAV f (kDel l s):=by
 rw[kAV];congr 1
 induction l with
 |nil=>rfl
 |cons p l ih =>
  simp only[List.map_cons,kvDel,kDel,ih];split<;>rfl
def varT:Option Int→Int×Int
 |none=>(0,11)
 |some ty=>if ty<1∨3<ty then(0,10)else(ty,0)
mutual
def ofE(vars:List (qac×Int)):Ex→Int×Int
 | .mk op _ s args =>
  if op=3 then varT (qbg vars s)
  else match ofL vars args with
   |(e,tys) =>
    if e≠0 then(0,e)
    else if 10≤op∧op≤15 then(if tys.getD 0 0≠tys.getD 1 0∨cmpOk op (tys.getD 0 0)=false then(0,10)else(3,0))
    else if tys.all (fun t=>decide (t=(qcm op).1))then((qcm op).2,0)else(0,10)
def ofL(vars:List (qac×Int)):List Ex→Int×List Int
 | []=>(0,[])
 |e::l=>if (ofE vars e).2≠0 then((ofE vars e).2,[])else((ofL vars l).1,(ofE vars e).1::(ofL vars l).2)
end
theorem ofE_eq(vars:List (qac×Int))(e:Ex):ofE vars e =
  if e.op=3 then varT (qbg vars e.s)
  else if (ofL vars e.args).1≠0 then(0,(ofL vars e.args).1)
  else if 10≤e.op∧e.op≤15 then(if (ofL vars e.args).2.getD 0 0≠(ofL vars e.args).2.getD 1 0∨cmpOk e.op ((ofL vars e.args).2.getD 0 0)=false then(0,10)else(3,0))
  else if (ofL vars e.args).2.all (fun t=>decide (t=(qcm e.op).1))then((qcm e.op).2,0)else(0,10):=by
 cases e with
 |mk o n s a=>rw[ofE];rfl
theorem chkL_mem{l:List Ex}{d:Nat}(h:chkL l d=0):∀x∈l,chkE x d=0:=by
 induction l with
 |nil=>simp
 |cons e l ih =>
  rw[chkL]at h;split at h
  ·rename_i h0;intro x hx;rcases List.mem_cons.1 hx with rfl|hx
   ·exact h0
   ·exact ih h x hx
  ·contradiction
theorem chkE_args{e:Ex}{d:Nat}(h:chkE e d=0):∀x∈e.args,chkE x (d+1)=0:=by
 rw[chkE_eq]at h;split at h
 ·exact chkL_mem h
 ·contradiction
theorem qd5{e:Ex}{d:Nat}(h:chkE e d=0):(e.args.length:Int)=qb0 e.op:=by
 rw[chkE_eq]at h;split at h
 ·rename_i h0;unfold qcb at h0;split at h0
  ·omega
  split at h0
  ·omega
  split at h0
  ·omega
  rename_i h3;simp only[not_or,Decidable.not_not]at h3;exact h3.2.2
 ·contradiction
end Go.Cw

namespace Go.Cw
open Go Go.Abs
structure TS where
 visible:List (qac×Int)
 loops:List (qac×Bool)
 all:List (qac×Int)
def TS.decl(s:TS)(name:qac)(ty:Int):TS:=⟨qbr s.visible name ty,s.loops,qbr s.all name ty⟩
def qc5(vis:List (qac×Int))(t:St):Int×Int×Int :=
 if t.op=8 then(0,0,0)
 else if (ofE vis t.a).2=0∧(t.op=3∨t.op=6)then((ofE vis t.a).1,(ofE vis t.b).1,(ofE vis t.b).2)
 else((ofE vis t.a).1,0,(ofE vis t.a).2)
def delLets(l:List St)(vis:List (qac×Int)):List (qac×Int) :=
 match l with
 | []=>vis
 |s::l=>delLets l (if s.op=1 then kDel vis s.name else vis)
def okS:St→Nat→Prop
 | .mk op name mx a b body els,d=>qbo (.mk op name mx a b body els) d=0∧(∀x∈body.attach,okS x.1 (d+1))∧(∀x∈els.attach,okS x.1 (d+1))
termination_by s=>SizeOf.sizeOf s
decreasing_by
 all_goals
  have:=List.sizeOf_lt_of_mem x.2;simp only[St.mk.sizeOf_spec];omega
def okL(l:List St)(d:Nat):Prop:=∀s∈l,okS s d
theorem qco(s:St)(d:Nat):okS s d↔qbo s d=0∧okL s.body (d+1)∧okL s.els (d+1):=by
 cases s with
 |mk op name mx a b body els =>
  rw[okS];simp[okL,St.body,St.els]
theorem valS_zero{e:Int}{t:St}{d:Nat}(h:valS e t d=0):e=0∧qbo t d=0:=by
 unfold valS at h;split at h
 ·exact⟨by assumption,h⟩
 ·contradiction
theorem firstW_keep{σ:Type}(e:Ex)(x:Nat×σ):(qbz qb2 e x).2=x.2:=by
 unfold qbz qb2;split<;>rfl
mutual
theorem stW_ok:∀(s:St) (d:Nat) (x:Nat×Int),(stW valS qb2 s d x).2=0→(stW valS qb2 s d x).1≠0→x.2=0∧okL s.body (d+1)∧okL s.els (d+1)
 | .mk _ _ _ a b body els,d,x,h0,h1=>by
  rw[stW]at h0 h1;have h2:=blkW_ok els (d+1) _ h0 h1;have hl:=blkW_le valS qb2 els (d+1) (blkW valS qb2 body (d+1) (qbz qb2 b (qbz qb2 a x)));have h3:=blkW_ok body (d+1) _ h2.1 (by omega);rw[firstW_keep,firstW_keep]at h3;exact⟨h3.1,h3.2,h2.2⟩
theorem blkW_ok:∀(l:List St) (d:Nat) (x:Nat×Int),(blkW valS qb2 l d x).2=0→(blkW valS qb2 l d x).1≠0→x.2=0∧okL l d
 | [],d,x,h0,h1=>by
  rw[blkW]at h0;exact⟨h0,by simp[okL]⟩
 |s::l,d,x,h0,h1=>by
  rw[blkW]at h0 h1;split at h0
  ·rename_i hz;rw[if_pos hz]at h1;contradiction
  ·rename_i hz;rw[if_neg hz]at h1;have h2:=blkW_ok l d _ h0 h1;have hl:=blkW_le valS qb2 l d (stW valS qb2 s d (x.1 - 1,valS x.2 s d));have h3:=stW_ok s d _ h2.1 (by omega);have h4:=valS_zero h3.1;refine⟨h4.1,fun y hy=>?_⟩;rcases List.mem_cons.1 hy with rfl|hy
   ·exact(qco _ _).2 ⟨h4.2,h3.2⟩
   ·exact h2.2 y hy
end
theorem validP_ok{p:Proc}(h:qcn p=0):okL p.body 1:=by
 unfold qcn at h;split at h
 ·contradiction
 split at h
 ·contradiction
 simp only at h;split at h
 ·contradiction
 rename_i h1;simp only[not_and]at h1;exact(blkW_ok p.body 1 (401,0) h (h1 h)).2
theorem stmtErr_a{t:St}{d:Nat}(h:qbo t d=0)(ho:(qa8 t.op).1.a=true):chkE t.a 1=0:=by
 unfold qbo at h;grind
theorem stmtErr_b{t:St}{d:Nat}(h:qbo t d=0)(ho:(qa8 t.op).1.b=true):chkE t.b 1=0:=by
 unfold qbo at h;grind
structure TH(c a b d:Nat)(H:TS→qab)(n0:Nat):Prop where
 len:∀s,(H s).length=n0
 hc:c<n0
 ha:a<n0
 hb:b<n0
 hd:d<n0
 lc:∀s,(H s)[c]?=some (.cells [.mapr a,.mapr b,.mapr d])
 la:∀s,(H s)[a]?=some (.map (kAV I s.visible))
 lb:∀s,(H s)[b]?=some (.map (kAV Bo s.loops))
 ld:∀s,(H s)[d]?=some (.map (kAV I s.all))
 sa:∀s v,(H s).set a (.map (kAV I v))=H ⟨v,s.loops,s.all⟩
 sb:∀s v,(H s).set b (.map (kAV Bo v))=H ⟨s.visible,v,s.all⟩
 sd:∀s v,(H s).set d (.map (kAV I v))=H ⟨s.visible,s.loops,v⟩
 und:∀s,hUnder n0 (H s)=true
section
variable {c a b d:Nat} {H:TS→qab} {n0:Nat}
theorem TH.gl(T:TH c a b d H n0){i:Nat}(hi:i<n0)(s:TS)(l:qab):(H s++l)[i]?=(H s)[i]?:=List.getElem?_append_left (by rw[T.len];exact hi)
theorem TH.lc'(T:TH c a b d H n0)(s:TS)(l:qab):(H s++l)[c]?=some (.cells [.mapr a,.mapr b,.mapr d]):=by rw[T.gl T.hc,T.lc]
theorem TH.la'(T:TH c a b d H n0)(s:TS)(l:qab):(H s++l)[a]?=some (.map (kAV I s.visible)):=by rw[T.gl T.ha,T.la]
theorem TH.lb'(T:TH c a b d H n0)(s:TS)(l:qab):(H s++l)[b]?=some (.map (kAV Bo s.loops)):=by rw[T.gl T.hb,T.lb]
theorem TH.ld'(T:TH c a b d H n0)(s:TS)(l:qab):(H s++l)[d]?=some (.map (kAV I s.all)):=by rw[T.gl T.hd,T.ld]
theorem TH.sa'(T:TH c a b d H n0)(s:TS)(v:List (qac×Int))(l:qab):(H s++l).set a (.map (kAV I v))=H ⟨v,s.loops,s.all⟩++l:=by rw[List.set_append_left _ _ (by rw[T.len];exact T.ha),T.sa]
theorem TH.sb'(T:TH c a b d H n0)(s:TS)(v:List (qac×Bool))(l:qab):(H s++l).set b (.map (kAV Bo v))=H ⟨s.visible,v,s.all⟩++l:=by rw[List.set_append_left _ _ (by rw[T.len];exact T.hb),T.sb]
theorem TH.sd'(T:TH c a b d H n0)(s:TS)(v:List (qac×Int))(l:qab):(H s++l).set d (.map (kAV I v))=H ⟨s.visible,s.loops,v⟩++l:=by rw[List.set_append_left _ _ (by rw[T.len];exact T.hd),T.sd]
theorem TH.und'(T:TH c a b d H n0)(s:TS):hUnder (H s).length (H s)=true:=by rw[T.len];exact T.und s
theorem TH.ext(T:TH c a b d H n0)(L:qab)(hL:hUnder (n0+L.length) L=true):TH c a b d (fun s=>H s++L) (n0+L.length) where
 len:=fun s=>by rw[List.length_append,T.len]
 hc:=by have:=T.hc;omega
 ha:=by have:=T.ha;omega
 hb:=by have:=T.hb;omega
 hd:=by have:=T.hd;omega
 lc:=fun s=>T.lc' s L
 la:=fun s=>T.la' s L
 lb:=fun s=>T.lb' s L
 ld:=fun s=>T.ld' s L
 sa:=fun s v=>T.sa' s v L
 sb:=fun s v=>T.sb' s v L
 sd:=fun s v=>T.sd' s v L
 und:=fun s=>by rw[qar,qau (by omega) (T.und s),hL];rfl
end
end Go.Cw
