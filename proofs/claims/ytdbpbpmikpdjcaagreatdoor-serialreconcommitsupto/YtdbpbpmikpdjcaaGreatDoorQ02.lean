/- Part 2 of a proof: AbsD, AbsDb, AbsDc, AbsDd, AbsE -/
import Derived.ChangeKeysEq
import Derived.DeepKeys
import Derived.MapKept
import Derived.Test.YtdbpbpmikpdjcaaGreatDoorQ01
set_option linter.all false

namespace Go.Abs
inductive TK where
 | other
 | bool
 | int (k:IntKind)
 | string
 | struct (fs:List (Nat×Nat))
 | array (n e sz:Nat)
 | slice (e sz:Nat)
 | map (k e:Nat)
 | iface
 | ptr
 | func
structure TI where
 size:Nat
 bytes:Nat
 zero:List AV
 kind:TK
def qbf (P:Program):TypeDesc→TK
 | .bool=>.bool
 | .int k=>.int k
 | .string=>.string
 | .struct fs=>if fs.toList.all fun f=>(P.info? f.type).isSome then .struct (fs.toList.map fun f=>(f.offset,P.cellsOf f.type)) else .other
 | .array n e=>if (P.info? e).isSome then .array n e (P.cellsOf e) else .other
 | .slice e=>if (P.info? e).isSome then .slice e (P.cellsOf e) else .other
 | .map k e=>.map k e
 | .interface _=>.iface
 | .pointer _=>.ptr
 | .func _ _ _=>.func
 | _=>.other
def ti (P:Program) (t:TypeId):Option TI :=
 match P.info? t,P.underlying t with
 | some i,some d=>match i.zero with
  | some z=>if z.cells.size=i.size∧z.cells.toList.all (·.oneCell')=true then some ⟨i.size,i.bytes,z.cells.toList.map liftC,qbf P d⟩ else none
  | none=>none
 | _,_=>none
theorem ti_spec {P:Program} {t:TypeId} {x:TI} (h:ti P t=some x) :
  ∃ i d z,P.info? t=some i∧P.underlying t=some d∧i.zero=some z∧x=⟨i.size,i.bytes,z.cells.toList.map liftC,qbf P d⟩∧z.cells.size=i.size∧∀ v,v∈z.cells.toList→v.oneCell'=true:=by
 unfold ti at h
 split at h
 ·
  rename_i i d hi hd
  split at h
  ·
   rename_i z hz
   split at h
   · rename_i hc;exact ⟨i,d,z,hi,hd,hz,by simpa using h.symm,hc.1,List.all_eq_true.1 hc.2⟩
   · cases h
  · cases h
 · cases h
def TK.agg:TK→Bool
 | .struct _ | .array ..=>true
 | _=>false
def qaf (P:Program) (t:TypeId):TK:=match ti P t with | some x=>x.kind | none=>.other
def qar (P:Program) (t:TypeId):Nat:=match ti P t with | some x=>x.size | none=>0
def qa0 (P:Program) (t:TypeId):List AV:=match ti P t with | some x=>x.zero | none=>[]
structure SV where
 side:Prop
 val:AV
def SV.no:SV:=⟨False,.top⟩
def aInt (op:BinOp) (k:IntKind) (a b:Int):SV :=
 match op with
 | .add=>⟨True,.val (.int k (k.wrap (a+b)))⟩
 | .sub=>⟨True,.val (.int k (k.wrap (a - b)))⟩
 | .mul=>⟨True,.val (.int k (k.wrap (a * b)))⟩
 | .quo=>⟨b≠0,.val (.int k (k.wrap (a.tdiv b)))⟩
 | .rem=>⟨b≠0,.val (.int k (a.tmod b))⟩
 | .eql=>⟨True,.val (.bool (decide (a=b)))⟩
 | .neq=>⟨True,.val (.bool (!decide (a=b)))⟩
 | .lss=>⟨True,.val (.bool (decide (a<b)))⟩
 | .leq=>⟨True,.val (.bool (decide (a≤b)))⟩
 | .gtr=>⟨True,.val (.bool (decide (b<a)))⟩
 | .geq=>⟨True,.val (.bool (decide (b≤a)))⟩
 | .and=>⟨True,.val (.int k (k.wrap (BitVec.ofInt k.bits a &&& BitVec.ofInt k.bits b).toNat))⟩
 | .or=>⟨True,.val (.int k (k.wrap (BitVec.ofInt k.bits a ||| BitVec.ofInt k.bits b).toNat))⟩
 | .xor=>⟨True,.val (.int k (k.wrap (BitVec.ofInt k.bits a ^^^ BitVec.ofInt k.bits b).toNat))⟩
 | .andNot=>⟨True,.val (.int k (k.wrap (BitVec.ofInt k.bits a &&& ~~~ BitVec.ofInt k.bits b).toNat))⟩
 | _=>.no
def sLt (a b:ByteArray):Bool:=Op.bytesLess a.toList b.toList
def aStr (op:BinOp) (a b:ByteArray):SV :=
 match op with
 | .add=>⟨a.size+b.size≤68719476736,.val (.string (a++b))⟩
 | .eql=>⟨True,.val (.bool (decide (a=b)))⟩
 | .neq=>⟨True,.val (.bool (!decide (a=b)))⟩
 | .lss=>⟨True,.val (.bool (sLt a b))⟩
 | .leq=>⟨True,.val (.bool (sLt a b||decide (a=b)))⟩
 | .gtr=>⟨True,.val (.bool (!(sLt a b||decide (a=b))))⟩
 | .geq=>⟨True,.val (.bool (!(sLt a b)))⟩
 | _=>.no
def flatFields (g:TypeId→Option (List TK)) (P:Program):Nat→List Field→Option (List TK)
 | _,[]=>some []
 | off,f::fs =>
  if f.name≠ "_"∧f.offset=off then
   match g f.type with
   | some ks=>if ks.length=P.cellsOf f.type then (flatFields g P (off+ks.length) fs).map (ks++·) else none
   | none=>none
  else none
def flatEq (P:Program):Nat→TypeId→Option (List TK)
 | 0,_=>none
 | d+1,t =>
  match P.underlying t with
  | some .bool=>some [.bool]
  | some (.int k)=>some [.int k]
  | some .string=>some [.string]
  | some (.struct fs)=>if P.stoodInHeld t=true then none else flatFields (flatEq P d) P 0 fs.toList
  | _=>none
def flatOf (P:Program) (t:TypeId):List TK :=
 if P.eqGuardType P.depth t=false∧(qaf P t).agg=true then (flatEq P 8 t).getD [] else []
def fitA:List TK→List AV→Prop
 | [],[]=>True
 | .bool::ks,.val (.bool _)::xs=>fitA ks xs
 | .int k::ks,.val (.int k' _)::xs=>k'=k∧fitA ks xs
 | .string::ks,.val (.string _)::xs=>fitA ks xs
 | _,_=>False
def eqA:List AV→List AV→Bool
 | [],[]=>true
 | .val (.bool a)::xs,.val (.bool b)::ys=>decide (a=b)&&eqA xs ys
 | .val (.int _ a)::xs,.val (.int _ b)::ys=>decide (a=b)&&eqA xs ys
 | .val (.string a)::xs,.val (.string b)::ys=>decide (a=b)&&eqA xs ys
 | _,_=>false
def anyT (P:Program) (t:TypeId):Bool :=
 match P.underlying t with
 | some (.interface ms)=>ms.isEmpty
 | _=>false
def aBin (P:Program) (op:BinOp) (T:TypeId) (x y:AV):SV :=
 match x,y with
 | .val (.int k a),.val (.int k' b) =>
  match op with
  | .shl=>⟨0≤b,.val (.int k (k.wrap (a * 2 ^ (min b.toNat k.bits))))⟩
  | .shr=>⟨0≤b,.val (.int k (a.fdiv (2 ^ (min b.toNat k.bits))))⟩
  | op=>⟨k=k'∧(aInt op k a b).side,(aInt op k a b).val⟩
 | .val (.string a),.val (.string b)=>aStr op a b
 | .val (.bool a),.val (.bool b) =>
  match op with
  | .eql=>⟨qaf P T=.bool,.val (.bool (decide (a=b)))⟩
  | .neq=>⟨qaf P T=.bool,.val (.bool (!decide (a=b)))⟩
  | _=>.no
 | .agg xs,.agg ys =>
  match op with
  | .eql=>⟨flatOf P T≠[]∧fitA (flatOf P T) xs∧fitA (flatOf P T) ys,.val (.bool (eqA xs ys))⟩
  | .neq=>⟨flatOf P T≠[]∧fitA (flatOf P T) xs∧fitA (flatOf P T) ys,.val (.bool (!eqA xs ys))⟩
  | _=>.no
 | .iface _ _,.val .nilIface =>
  match op with
  | .eql=>⟨qaf P T=.iface,.val (.bool false)⟩
  | .neq=>⟨qaf P T=.iface,.val (.bool true)⟩
  | _=>.no
 | .val .nilIface,.val .nilIface =>
  match op with
  | .eql=>⟨anyT P T=true,.val (.bool true)⟩
  | .neq=>⟨anyT P T=true,.val (.bool false)⟩
  | _=>.no
 | _,_=>.no
def aLoad (s:Nat) (agg:Bool) (cells:List AV):SV :=
 match agg with
 | true=>⟨s≤cells.length,.agg (cells.take s)⟩
 | false=>⟨0<cells.length,cells.getD 0 .top⟩
def aLoadAt (P:Program) (t:TypeId) (a:AV) (h:qaa):SV :=
 match a with
 | .ptr i off=>match h[i]? with
  | some (.cells xs)=>⟨(aLoad (qar P t) (qaf P t).agg (xs.drop off)).side∧qaf P t≠.other,(aLoad (qar P t) (qaf P t).agg (xs.drop off)).val⟩
  | _=>.no
 | .eptr cells=>⟨(aLoad (qar P t) (qaf P t).agg cells).side∧qaf P t≠.other,(aLoad (qar P t) (qaf P t).agg cells).val⟩
 | .optr i n sz r q=>match h[i]? with
  | some (.uarr _ sz' rows)=>⟨rows.length=n∧sz'=sz∧r<rows.length∧(aLoad (qar P t) (qaf P t).agg ((rows.getD r []).drop q)).side∧qaf P t≠.other,(aLoad (qar P t) (qaf P t).agg ((rows.getD r []).drop q)).val⟩
  | _=>.no
 | _=>.no
def aField (P:Program) (s f:Nat):Option (Nat×Nat) :=
 match qaf P s with
 | .struct fs=>match fs[f]? with
  | some (o,n)=>if n=0 then none else some (o,n)
  | none=>none
 | _=>none
def AV.cells:AV→List AV
 | .agg xs=>xs
 | y=>[y]
def AV.one:AV→Bool
 | .val v=>v.oneCell'
 | .nils | .slice _ | .ptr .. | .eptr _ | .mapr _ | .fn .. | .iface .. | .own .. | .optr ..=>true
 | _=>false
def AV.cellsOk:AV→Bool
 | .agg _=>true
 | y=>y.one
def fillL (fs:List (Nat×Nat)):List (Nat×AV)→List AV→Option (List AV)
 | [],cells=>some cells
 | (i,x)::rest,cells =>
  match fs[i]? with
  | some (o,n)=>if x.cellsOk=true∧x.cells.length=n∧o+n≤cells.length then fillL fs rest (cells.take o++x.cells++cells.drop (o+n)) else none
  | none=>none
def places (P:Program) (t:TypeId):List (Nat×Nat) :=
 match qaf P t with
 | .struct fs=>fs
 | .array n _ sz=>(List.range n).map fun i=>(i * sz,sz)
 | _=>[]
def byteAt (s:ByteArray) (n:Int):UInt8:=s.data.toList.getD n.toNat 0
def qcv (P:Program) (T:TypeId) (x i:AV) (h:qaa):SV :=
 match qaf P T,x,i with
 | .slice _ sz,.slice rows,.val (.int _ n)=>⟨0≤n∧n.toNat<rows.length∧(rows.getD n.toNat []).length=sz∧0<sz,.eptr (rows.getD n.toNat [])⟩
 | .array len _ sz,.ptr o off,.val (.int _ n)=>⟨0≤n∧n.toNat<len∧0<sz,.ptr o (off+n.toNat * sz)⟩
 | .array len _ sz,.eptr cells,.val (.int _ n)=>⟨0≤n∧n.toNat<len∧0<sz,.eptr (cells.drop (n.toNat * sz))⟩
 | .array len _ sz,.optr o m sz' r q,.val (.int _ n)=>⟨0≤n∧n.toNat<len∧0<sz,.optr o m sz' r (q+n.toNat * sz)⟩
 | .slice _ sz,.own o m,.val (.int _ n)=>match h[o]? with
  | some (.uarr _ sz' rows)=>⟨rows.length=m∧sz'=sz∧0≤n∧n.toNat<rows.length∧0<sz,.optr o m sz n.toNat 0⟩
  | _=>.no
 | _,_,_=>.no
def aIndex (P:Program) (T:TypeId) (x i:AV):SV :=
 match qaf P T,x,i with
 | .string,.val (.string s),.val (.int _ n)=>⟨0≤n∧n.toNat<s.size,.val (.int .u8 (byteAt s n).toNat)⟩
 | .array len e sz,.agg cs,.val (.int _ n)=>⟨0≤n∧n.toNat<len∧n.toNat<cs.length∧sz=1∧qaf P e≠.other∧(qaf P e).agg=false,cs.getD n.toNat .top⟩
 | _,_,_=>.no
def aLen (P:Program) (T:TypeId) (x:AV) (h:qaa):SV :=
 match qaf P T,x with
 | .slice ..,.slice rows=>⟨True,.val (.int .i64 rows.length)⟩
 | .slice ..,.nils=>⟨True,.val (.int .i64 0)⟩
 | .slice ..,.own o m=>match h[o]? with
  | some (.uarr _ _ rows)=>⟨rows.length=m,.val (.int .i64 rows.length)⟩
  | _=>.no
 | .string,.val (.string s)=>⟨True,.val (.int .i64 s.size)⟩
 | .array n _ _,_=>⟨True,.val (.int .i64 n)⟩
 | _,_=>.no
def boundAV (d:Int):Option AV→Option Int
 | none=>some d
 | some (.val (.int _ n))=>some n
 | some _=>none
def RowsLen (sz:Nat) (rows:List (List AV)):Prop:=∀ r,r∈rows→r.length=sz
def aSlice (P:Program) (T:TypeId) (x:AV) (lo hi mx:Option AV):SV :=
 match mx with
 | some _=>.no
 | none =>
  match qaf P T,x with
  | .slice _ sz,.slice rows =>
   match boundAV 0 lo,boundAV rows.length hi with
   | some l,some h=>⟨0≤l∧l≤h∧h≤rows.length∧RowsLen sz rows,.slice ((rows.take h.toNat).drop l.toNat)⟩
   | _,_=>.no
  | .string,.val (.string s) =>
   match boundAV 0 lo,boundAV s.size hi with
   | some l,some h=>⟨0≤l∧l≤h∧h≤s.size,.val (.string (s.extract l.toNat h.toNat))⟩
   | _,_=>.no
  | _,_=>.no
def strKeys:List (AV×AV)→Option (List (ByteArray×AV))
 | []=>some []
 | (.val (.string s),v)::l=>(strKeys l).map ((s,v)::·)
 | _=>none
def qch (l:List (ByteArray×AV)):List (AV×AV):=l.map fun p=>(.val (.string p.1),p.2)
def kvGet:List (ByteArray×AV)→ByteArray→Option AV
 | [],_=>none
 | p::l,s=>if p.1=s then some p.2 else kvGet l s
def kvSet:List (ByteArray×AV)→ByteArray→AV→List (ByteArray×AV)
 | [],s,v=>[(s,v)]
 | p::l,s,v=>if p.1=s then (s,v)::l else p::kvSet l s v
def kvDel:List (ByteArray×AV)→ByteArray→List (ByteArray×AV)
 | [],_=>[]
 | p::l,s=>if p.1=s then l else p::kvDel l s
def zeroAV (P:Program) (e:TypeId):Option AV :=
 match P.info? e with
 | some i=>match i.zero with
  | some (.agg vs)=>if vs.toList.all (·.oneCell')=true then some (.agg (vs.toList.map liftC)) else none
  | some z=>some (liftC z)
  | none=>none
 | none=>none
def aLookup (P:Program) (T:TypeId) (x i:AV) (ok:Bool) (h:qaa):SV :=
 match qaf P T,x,i with
 | .map k e,.mapr o,.val (.string s)=>match h[o]? with
  | some (.map es)=>match strKeys es,zeroAV P e with
   | some l,some z=>⟨qaf P k=.string,match ok with
    | true=>.tuple [(kvGet l s).getD z,.val (.bool (kvGet l s).isSome)]
    | false=>(kvGet l s).getD z⟩
   | _,_=>.no
  | _=>.no
 | _,_,_=>.no
def aMin (x y:AV):SV :=
 match x,y with
 | .val (.int k a),.val (.int k' b)=>⟨k=k',.val (.int k (if b<a then b else a))⟩
 | _,_=>.no
def aMax (x y:AV):SV :=
 match x,y with
 | .val (.int k a),.val (.int k' b)=>⟨k=k',.val (.int k (if a<b then b else a))⟩
 | _,_=>.no
def byteSl (P:Program) (src:TypeId):Prop:=match qaf P src with | .slice e sz=>sz=1∧qaf P e=.int .u8 | _=>False
def aConv (P:Program) (src dst:TypeId) (x:AV):SV :=
 match qaf P dst,x with
 | .int k,.val (.int _ n)=>⟨qaf P src≠.other,.val (.int k (k.wrap n))⟩
 | .string,.val (.string s)=>⟨qaf P src≠.other,.val (.string s)⟩
 | .string,.slice [[.val (.int .u8 n)]]=>⟨byteSl P src,.val (.string ⟨#[UInt8.ofNat n.toNat]⟩)⟩
 | _,_=>.no
def aAssert (P:Program) (dst:TypeId) (ok:Bool) (x:AV):SV :=
 match x,ok with
 | .iface t v,true=>match t == dst with
  | true=>⟨qaf P dst≠.iface∧qaf P dst≠.other,.tuple [v,.val (.bool true)]⟩
  | false=>match zeroAV P dst with
   | some z=>⟨qaf P dst≠.iface∧qaf P dst≠.other,.tuple [z,.val (.bool false)]⟩
   | none=>.no
 | .iface t v,false=>⟨t=dst∧qaf P dst≠.iface∧qaf P dst≠.other,v⟩
 | .val .nilIface,true=>match zeroAV P dst with
  | some z=>⟨qaf P dst≠.iface∧qaf P dst≠.other,.tuple [z,.val (.bool false)]⟩
  | none=>.no
 | _,_=>.no
def qa8 (P:Program) (g:Operand→AV) (h:qaa):Op→SV
 | .move x | .assign x=>⟨True,g x⟩
 | .build t parts =>
  match fillL (places P t) (parts.toList.map fun p=>(p.1,g p.2)) (qa0 P t) with
  | some cells=>⟨(qaf P t).agg=true,.agg cells⟩
  | none=>.no
 | .load t a=>aLoadAt P t (g a) h
 | .nilCheck x =>
  match g x with
  | .ptr i o=>⟨True,.ptr i o⟩
  | .eptr c=>⟨True,.eptr c⟩
  | .optr i n sz r q=>⟨True,.optr i n sz r q⟩
  | .fn (.func f) a c=>⟨True,.fn (.func f) a c⟩
  | _=>.no
 | .binOp op T x y _=>aBin P op T (g x) (g y)
 | .unOp .not _ x=>match g x with
  | .val (.bool b)=>⟨True,.val (.bool (!b))⟩
  | _=>.no
 | .unOp .neg _ x=>match g x with
  | .val (.int k n)=>⟨True,.val (.int k (k.wrap (0 - n)))⟩
  | _=>.no
 | .convert src dst x=>aConv P src dst (g x)
 | .makeInterface T x=>⟨qaf P T≠.iface∧qaf P T≠.other,.iface T (g x)⟩
 | .makeFunc f first caps=>⟨True,.fn f (first.toList.map g) (caps.toList.map g)⟩
 | .fieldAddr s x f =>
  match aField P s f,g x with
  | some (o,_),.ptr i off=>⟨True,.ptr i (off+o)⟩
  | some (o,_),.eptr cells=>⟨True,.eptr (cells.drop o)⟩
  | some (o,_),.optr i n sz r q=>⟨True,.optr i n sz r (q+o)⟩
  | _,_=>.no
 | .indexAddr T x i=>qcv P T ((g x).norm h) (g i) h
 | .index T x i=>aIndex P T (g x) (g i)
 | .lookup T x i ok=>aLookup P T (g x) (g i) ok h
 | .typeAssert x _ dst ok=>aAssert P dst ok (g x)
 | .extract x n =>
  match g x with
  | .tuple vs=>⟨n<vs.length,vs.getD n .top⟩
  | _=>.no
 | .slice T x lo hi mx=>aSlice P T ((g x).norm h) (lo.map g) (hi.map g) (mx.map g)
 | .call { callee:=.builtin .len,args,argTypes }=>match args.toList,argTypes.toList with
  | [x],[T]=>aLen P T ((g x).norm h) h
  | _,_=>.no
 | .call { callee:=.builtin .min,args,.. }=>match args.toList with
  | [x,y]=>aMin (g x) (g y)
  | _=>.no
 | .call { callee:=.builtin .max,args,.. }=>match args.toList with
  | [x,y]=>aMax (g x) (g y)
  | _=>.no
 | _=>.no
end Go.Abs

namespace Go.Abs
def fitV:List TK→List Value→Prop
 | [],[]=>True
 | .bool::ks,.bool _::xs=>fitV ks xs
 | .int k::ks,.int k' _::xs=>k'=k∧fitV ks xs
 | .string::ks,.string _::xs=>fitV ks xs
 | _,_=>False
def eqV:List Value→List Value→Bool
 | [],[]=>true
 | .bool a::xs,.bool b::ys=>decide (a=b)&&eqV xs ys
 | .int _ a::xs,.int _ b::ys=>decide (a=b)&&eqV xs ys
 | .string a::xs,.string b::ys=>decide (a=b)&&eqV xs ys
 | _,_=>false
def mkV (P:Program) (t:TypeId) (cs:List Value):Value :=
 match P.underlying t with
 | some (.struct _)=>.agg cs.toArray
 | _=>cs.headD undef
theorem fitV_len:∀ {ks:List TK} {xs:List Value},fitV ks xs→xs.length=ks.length
 | [],[],_=>rfl
 | [],_::_,h=>by simp [fitV] at h
 | k::ks,[],h=>by cases k<;>simp [fitV] at h
 | k::ks,x::xs,h=>by
  cases k<;>cases x<;>simp only [fitV] at h<;>first | (exact h.elim) | skip
  · simp [fitV_len h]
  · simp [fitV_len h.2]
  · simp [fitV_len h]
theorem fitV_app:∀ {ks ks':List TK} {l:List Value},fitV (ks++ks') l→fitV ks (l.take ks.length)∧fitV ks' (l.drop ks.length)
 | [],ks',l,h=>⟨by simp [fitV],by simpa using h⟩
 | k::ks,ks',[],h=>by cases k<;>simp [fitV] at h
 | k::ks,ks',x::xs,h=>by
  cases k<;>cases x<;>simp only [List.cons_append,fitV] at h<;>first | (exact h.elim) | skip
  · simpa [fitV] using fitV_app h
  · have:=fitV_app h.2;simpa [fitV,h.1] using this
  · simpa [fitV] using fitV_app h
theorem eqV_app:∀ {ks:List TK} {a b c d:List Value},fitV ks a→fitV ks b→eqV (a++c) (b++d)=(eqV a b&&eqV c d)
 | [],a,b,c,d,ha,hb=>by
  have h1:=fitV_len ha
  have h2:=fitV_len hb
  simp at h1 h2
  subst h1;subst h2
  simp [eqV]
 | k::ks,[],b,c,d,ha,hb=>by cases k<;>simp [fitV] at ha
 | k::ks,x::a,[],c,d,ha,hb=>by cases k<;>simp [fitV] at hb
 | k::ks,x::a,y::b,c,d,ha,hb=>by
  cases k<;>cases x<;>simp only [fitV] at ha<;>first | (exact ha.elim) | skip
  all_goals cases y<;>simp only [fitV] at hb<;>first | (exact hb.elim) | skip
  · simp [eqV,eqV_app (c:=c) (d:=d) ha hb,Bool.and_assoc]
  · simp [eqV,eqV_app (c:=c) (d:=d) ha.2 hb.2,Bool.and_assoc]
  · simp [eqV,eqV_app (c:=c) (d:=d) ha hb,Bool.and_assoc]
section
variable {P:Program} {w:World}
def EqOk (P:Program) (w:World) (n:Nat) (t:TypeId) (ks:List TK):Prop :=
 ∀ xs ys:List Value,fitV ks xs→fitV ks ys→(Op.equalIn n t (mkV P t xs) (mkV P t ys)).run P w=.ok (eqV xs ys) w
theorem flat_und {d:Nat} {t:TypeId} {ks:List TK} (h:flatEq P d t=some ks):∃ kd,P.underlying t=some kd:=by
 cases d with
 | zero=>simp [flatEq] at h
 | succ d =>
  unfold flatEq at h
  split at h<;>first | exact ⟨_,by assumption⟩ | cases h
theorem run_part_flat {d:Nat} {t:TypeId} {ks:List TK} (h:flatEq P d t=some ks) (hl:ks.length=P.cellsOf t) {xs:Array Value} {off:Nat} (hf:fitV ks ((xs.toList.drop off).take ks.length)) :
  (part t xs off).run P w=.ok (mkV P t ((xs.toList.drop off).take ks.length)) w:=by
 obtain ⟨kd,hu⟩:=flat_und h
 obtain ⟨i,hi⟩:=info_of_underlying hu
 have one:∀ k,ks=[k]→(∀ fs,kd≠.struct fs)→(∀ n e,kd≠.array n e)→(part t xs off).run P w=.ok (mkV P t ((xs.toList.drop off).take ks.length)) w:=by
  intro k hk hns hna
  subst hk
  have hlen:=fitV_len hf
  have hoff:off<xs.size:=by
   simp at hlen
   omega
  have hx:xs[off]?=some xs[off]:=by simp [hoff]
  have hm:mkV P t ((xs.toList.drop off).take 1)=xs[off]:=by
   have hd:((xs.toList.drop off).take 1).headD undef=xs[off]:=by
    rw [List.drop_eq_getElem_cons (by simpa using hoff)]
    simp
   unfold mkV
   rw [hu]
   cases kd<;>first | (exact (hns _ rfl).elim) | exact hd
  simp only [List.length_singleton,hm]
  have hagg:(isAgg t).run P w=.ok false w:=by
   simp only [isAgg,Sem.run_bind,run_underlying hu,Result.andThen_ok]
   cases kd<;>first | (exact (hns _ rfl).elim) | (exact (hna _ _ rfl).elim) | rfl
  simp only [part,Sem.run_bind,hagg,Result.andThen_ok,Bool.false_eq_true,if_false,hx,Sem.run_pure]
 cases d with
 | zero=>simp [flatEq] at h
 | succ d =>
  unfold flatEq at h
  rw [hu] at h
  split at h
  · rename_i hk;cases hk;cases h;exact one _ rfl (by simp) (by simp)
  · rename_i k hk;cases hk;cases h;exact one _ rfl (by simp) (by simp)
  · rename_i hk;cases hk;cases h;exact one _ rfl (by simp) (by simp)
  ·
   rename_i fs hk
   cases hk
   have hagg:(isAgg t).run P w=.ok true w:=by
    simp only [isAgg,Sem.run_bind,run_underlying hu,Result.andThen_ok];rfl
   have hm:mkV P t ((xs.toList.drop off).take ks.length)=.agg (xs.extract off (off+P.cellsOf t)):=by
    unfold mkV
    rw [hu]
    simp only [Value.agg.injEq]
    apply Array.ext'
    rw [Array.toList_extract,hl]
    simp [List.extract]
   rw [hm]
   simp only [part,Sem.run_bind,hagg,Result.andThen_ok,if_true,run_sizeOf w hi,Sem.run_pure]
  · cases h
theorem run_eqFields_flat {n d:Nat} (IH:∀ t ks,flatEq P d t=some ks→EqOk P w n t ks):∀ (fs:List Field) (off:Nat) (ks:List TK),flatFields (flatEq P d) P off fs=some ks →
  ∀ xs ys:Array Value,fitV ks (xs.toList.drop off)→fitV ks (ys.toList.drop off)→(Op.eqFields n xs ys fs).run P w=.ok (eqV (xs.toList.drop off) (ys.toList.drop off)) w
 | [],off,ks,h,xs,ys,hx,hy=>by
  simp only [flatFields,Option.some.injEq] at h
  subst h
  have h1:=fitV_len hx
  have h2:=fitV_len hy
  have e1:xs.toList.drop off=[]:=List.length_eq_zero_iff.1 (by simpa using h1)
  have e2:ys.toList.drop off=[]:=List.length_eq_zero_iff.1 (by simpa using h2)
  rw [e1,e2]
  simp [Op.eqFields,eqV]
 | f::fs,off,ks,h,xs,ys,hx,hy=>by
  simp only [flatFields] at h
  split at h
  ·
   rename_i hn
   obtain ⟨hnm,rfl⟩:=hn
   split at h
   ·
    rename_i k1 hk1
    split at h
    ·
     rename_i hlen
     simp only [Option.map_eq_some_iff] at h
     obtain ⟨k2,hk2,rfl⟩:=h
     obtain ⟨x1,x2⟩:=fitV_app hx
     obtain ⟨y1,y2⟩:=fitV_app hy
     rw [List.drop_drop] at x2 y2
     have p1:=run_part_flat (w:=w) hk1 hlen x1
     have p2:=run_part_flat (w:=w) hk1 hlen y1
     have p3:=IH f.type k1 hk1 _ _ x1 y1
     have p4:=run_eqFields_flat IH fs (f.offset+k1.length) k2 hk2 xs ys x2 y2
     have hsplit:∀ zs:Array Value,zs.toList.drop f.offset=(zs.toList.drop f.offset).take k1.length++zs.toList.drop (f.offset+k1.length):=fun zs=>by
      rw [← List.drop_drop,List.take_append_drop]
     rw [hsplit xs,hsplit ys,eqV_app x1 y1]
     simp only [Op.eqFields,hnm,ne_eq,not_false_eq_true,if_true,Sem.run_bind,p1,p2,p3,Result.andThen_ok]
     cases eqV ((xs.toList.drop f.offset).take k1.length) ((ys.toList.drop f.offset).take k1.length) with
     | false=>simp
     | true=>simpa using p4
    · cases h
   · cases h
  · cases h
theorem run_equalIn_flat:∀ (d:Nat) (n:Nat) (t:TypeId) (ks:List TK),flatEq P d t=some ks→EqOk P w (n+d) t ks
 | 0,_,_,_,h=>by simp [flatEq] at h
 | d+1,n,t,ks,h=>by
  intro xs ys hx hy
  unfold flatEq at h
  obtain ⟨kd,hu⟩:∃ kd,P.underlying t=some kd:=by split at h<;>first | exact ⟨_,by assumption⟩ | cases h
  rw [hu] at h
  have one:∀ k,ks=[k]→∃ x y,xs=[x]∧ys=[y]:=fun k hk=>by
   subst hk
   exact ⟨_,_,(List.length_eq_one_iff.1 (fitV_len hx)).choose_spec,(List.length_eq_one_iff.1 (fitV_len hy)).choose_spec⟩
  split at h
  ·
   rename_i hk
   cases hk;cases h
   obtain ⟨x,y,rfl,rfl⟩:=one _ rfl
   cases x<;>simp only [fitV] at hx
   cases y<;>simp only [fitV] at hy
   rename_i a b
   simp only [mkV,hu,List.headD_cons,eqV,Bool.and_true]
   rw [show n+(d+1)=(n+d)+1 from rfl,run_equalIn_bool w (n+d) t a b hu]
   cases a<;>cases b<;>rfl
  ·
   rename_i k hk
   cases hk;cases h
   obtain ⟨x,y,rfl,rfl⟩:=one _ rfl
   cases x<;>simp only [fitV] at hx
   cases y<;>simp only [fitV] at hy
   rename_i k1 a k2 b
   obtain rfl:=hx.1
   obtain rfl:=hy.1
   simp only [mkV,hu,List.headD_cons,eqV,Bool.and_true]
   rw [show n+(d+1)=(n+d)+1 from rfl,run_equalIn_int w (n+d) t _ _ a b hu]
   rfl
  ·
   rename_i hk
   cases hk;cases h
   obtain ⟨x,y,rfl,rfl⟩:=one _ rfl
   cases x<;>simp only [fitV] at hx
   cases y<;>simp only [fitV] at hy
   rename_i a b
   simp only [mkV,hu,List.headD_cons,eqV,Bool.and_true]
   rw [show n+(d+1)=(n+d)+1 from rfl,run_equalIn_string w (n+d) t a b hu]
   congr 1
   rw [ByteArray.toList_eq,ByteArray.toList_eq]
   by_cases hab:a=b
   · subst hab;simp
   ·
    have:a.data.toList≠b.data.toList:=fun e=>hab (by cases a;cases b;simp at e;simp [e])
    rw [beq_eq_false_iff_ne.2 this,decide_eq_false hab]
  ·
   rename_i fs hk
   cases hk
   split at h
   · cases h
   ·
    rename_i hst
    have hfs:P.fieldsOf t=fs:=by simp [Program.fieldsOf,hu]
    have:=run_eqFields_flat (n:=n+d) (fun t ks h=>run_equalIn_flat d n t ks h) fs.toList 0 ks h xs.toArray ys.toArray (by simpa using hx) (by simpa using hy)
    simp only [mkV,hu]
    rw [show n+(d+1)=(n+d)+1 from rfl,run_equalIn_struct w (n+d) t _ _ (by rw [hfs];exact hu) (by simpa using hst),hfs,this]
    simp
  · cases h
end
end Go.Abs

namespace Go.Abs
open Go.MapKept
theorem strKeys_inv:∀ {es:List (AV×AV)} {l:List (ByteArray×AV)},strKeys es=some l→es=qch l
 | [],l,h=>by simp [strKeys] at h;subst h;rfl
 | (k,v)::es,l,h=>by
  unfold strKeys at h
  split at h
  · rename_i h1;cases h1
  ·
   rename_i s' v' l' h1
   cases h1
   simp only [Option.map_eq_some_iff] at h
   obtain ⟨l2,h2,rfl⟩:=h
   rw [strKeys_inv h2];rfl
  · cases h
theorem val_inv' {c:Ctx} {x v:Value} (h:Rel c (.val x) v):v=x:=by
 cases h with
 | data h=>cases h;rfl
 | val=>rfl
theorem val_ok {c:Ctx} {x v:Value} (h:Rel c (.val x) v):strOk x=true:=by
 cases h with
 | data h=>cases h with | val _ _ hs=>exact hs
 | val _ hs=>exact hs
def RelE (c:Ctx) (l:List (ByteArray×AV)) (ces:List MapEntry):Prop :=
 ces.length=l.length∧∀ (j:Nat) (p:ByteArray×AV) (ce:MapEntry),l[j]?=some p→ces[j]?=some ce→(ce.key=.string p.1∧strOk (.string p.1)=true)∧Rel c p.2 ce.val
def kvIdx:List (ByteArray×AV)→ByteArray→Option Nat
 | [],_=>none
 | p::l,s=>if p.1=s then some 0 else (kvIdx l s).map (· + 1)
theorem kvIdx_lt:∀ {l:List (ByteArray×AV)} {s:ByteArray} {j:Nat},kvIdx l s=some j→j<l.length
 | [],_,_,h=>by cases h
 | p::l,s,j,h=>by
  simp only [kvIdx] at h
  split at h
  · cases h;simp
  ·
   simp only [Option.map_eq_some_iff] at h
   obtain ⟨j',h,rfl⟩:=h
   have:=kvIdx_lt h
   simpa using this
theorem kvIdx_key:∀ {l:List (ByteArray×AV)} {s:ByteArray} {j:Nat},kvIdx l s=some j→∃ v,l[j]?=some (s,v)
 | [],_,_,h=>by cases h
 | p::l,s,j,h=>by
  simp only [kvIdx] at h
  split at h
  · rename_i hp;cases h;exact ⟨p.2,by simp [← hp]⟩
  ·
   simp only [Option.map_eq_some_iff] at h
   obtain ⟨j',h,rfl⟩:=h
   simpa using kvIdx_key h
theorem kvGet_idx:∀ (l:List (ByteArray×AV)) (s:ByteArray),kvGet l s=(kvIdx l s).bind fun j=>(l[j]?).map (·.2)
 | [],_=>rfl
 | p::l,s=>by
  simp only [kvGet,kvIdx]
  split
  · simp
  ·
   rw [kvGet_idx l s]
   cases kvIdx l s<;>simp
theorem kvSet_idx:∀ (l:List (ByteArray×AV)) (s:ByteArray) (v:AV),kvSet l s v=match kvIdx l s with | some j=>l.set j (s,v) | none=>l++[(s,v)]
 | [],_,_=>rfl
 | p::l,s,v=>by
  simp only [kvSet,kvIdx]
  split
  · rfl
  ·
   rw [kvSet_idx l s v]
   cases kvIdx l s<;>simp
theorem kvDel_idx:∀ (l:List (ByteArray×AV)) (s:ByteArray),kvDel l s=match kvIdx l s with | some j=>l.eraseIdx j | none=>l
 | [],_=>rfl
 | p::l,s=>by
  simp only [kvDel,kvIdx]
  split
  · rfl
  ·
   rw [kvDel_idx l s]
   cases kvIdx l s<;>simp
theorem findNow_kv {c:Ctx} (s:ByteArray):∀ (l:List (ByteArray×AV)) (ces:List MapEntry) (i:Nat),RelE c l ces →
  Instr.findNow .string (.string s) ces i=some ((kvIdx l s).bind fun j=>(ces[j]?).map fun e=>(i+j,e.val))
 | [],ces,i,h=>by
  have:=List.length_eq_zero_iff.1 h.1
  subst this
  rfl
 | p::l,[],i,h=>by have:=h.1;simp at this
 | p::l,ce::ces,i,h=>by
  have h0:=(h.2 0 p ce rfl rfl).1.1
  have ht:RelE c l ces:=⟨by simpa using h.1,fun j p ce hp hc=>h.2 (j+1) p ce (by simpa using hp) (by simpa using hc)⟩
  simp only [Instr.findNow,h0,Instr.sameNow,kvIdx]
  by_cases hs:p.1=s
  ·
   rw [if_pos hs]
   have:(s == p.1)=true:=by rw [hs];exact (bytes_beq _ _).2 rfl
   simp [this]
  ·
   rw [if_neg hs]
   have:(s == p.1)=false:=by
    cases hb:s == p.1 with
    | false=>rfl
    | true=>exact (hs ((bytes_beq _ _).1 hb).symm).elim
   simp only [this]
   rw [findNow_kv s l ces (i+1) ht]
   cases kvIdx l s with
   | none=>rfl
   | some j =>
    simp only [Option.bind_some,Option.map_some,List.getElem?_cons_succ]
    congr 2
    funext e
    rw [show i+1+j=i+(j+1) from by omega]
section
variable {P:Program} {w:World}
theorem relE_of {c:Ctx} {l:List (ByteArray×AV)} {ces:Array MapEntry} (hl:ces.size=(qch l).length) (h:∀ (j:Nat) (k x:AV) (ce:MapEntry),(qch l)[j]?=some (k,x)→ces[j]?=some ce→Rel c k ce.key∧Rel c x ce.val):RelE c l ces.toList :=
 ⟨by simpa [qch] using hl,fun j p ce hp hc=>by
  have:=h j (.val (.string p.1)) p.2 ce (by simp [qch,hp]) (by simpa using hc)
  exact ⟨⟨val_inv' this.1,val_ok this.1⟩,this.2⟩⟩
theorem of_relE {c:Ctx} {l:List (ByteArray×AV)} {ces:Array MapEntry} (h:RelE c l ces.toList):ces.size=(qch l).length∧∀ (j:Nat) (k x:AV) (ce:MapEntry),(qch l)[j]?=some (k,x)→ces[j]?=some ce→Rel c k ce.key∧Rel c x ce.val :=
 ⟨by simpa [qch] using h.1,fun j k x ce hk hc=>by
  simp only [qch,List.getElem?_map,Option.map_eq_some_iff,Prod.mk.injEq] at hk
  obtain ⟨p,hp,rfl,rfl⟩:=hk
  obtain ⟨h1,h2⟩:=h.2 j p ce hp (by simpa using hc)
  exact ⟨by rw [h1.1];exact .val _ h1.2,h2⟩⟩
theorem zeroAV_ok {c:Ctx} {e:TypeId} {z:AV} (h:zeroAV P e=some z):∃ v,(zeroValue e).run P w=.ok v w∧Rel c z v:=by
 unfold zeroAV at h
 split at h
 ·
  rename_i i hi
  have hrun:∀ v,i.zero=some v→(zeroValue e).run P w=.ok v w:=fun v hv=>by
   simp only [zeroValue,Sem.run_bind,run_typeInfo w hi,Result.andThen_ok,hv]
   simp
  split at h
  ·
   rename_i vs hz
   split at h
   ·
    rename_i hone
    cases h
    refine ⟨_,hrun _ hz,.agg _ _ (by simp) (fun j v hv=>List.all_eq_true.1 hone v (by simpa using Array.mem_of_getElem? hv)) fun j x v hx hv=>?_⟩
    simp only [List.getElem?_map,Option.map_eq_some_iff] at hx
    obtain ⟨u,hu,rfl⟩:=hx
    have:u=v:=by
     have hv':vs.toList[j]?=some v:=by simpa using hv
     rw [hu] at hv';cases hv';rfl
    subst this
    exact liftC_rel c _
   · cases h
  ·
   rename_i z' _ hz
   cases h
   exact ⟨_,hrun _ hz,liftC_rel c _⟩
  · cases h
 · cases h
theorem map_und {T k e:TypeId} (h:qaf P T=.map k e):P.underlying T=some (.map k e):=by
 unfold qaf at h
 cases ht:ti P T with
 | none=>rw [ht] at h;cases h
 | some x =>
  rw [ht] at h
  obtain ⟨i,d,z,_,h4,_,rfl,_⟩:=ti_spec ht
  rw [h4]
  simp only at h
  cases d<;>simp only [qbf] at h<;>first | (split at h<;>cases h) | (cases h;done) | skip
  cases h;rfl
theorem str_und {T:TypeId} (h:qaf P T=.string):P.underlying T=some .string:=by
 unfold qaf at h
 cases ht:ti P T with
 | none=>rw [ht] at h;cases h
 | some x =>
  rw [ht] at h
  obtain ⟨i,d,z,_,h4,_,rfl,_⟩:=ti_spec ht
  rw [h4]
  simp only at h
  cases d<;>simp only [qbf] at h<;>first | rfl | (split at h<;>cases h) | cases h
theorem mapr_inv {c:Ctx} {i:Nat} {v:Value} (h:Rel c (.mapr i) v):∃ b,v=.map (some b)∧c.blk i=some b:=by
 cases h with
 | data h=>cases h
 | mapr i b h=>exact ⟨b,rfl,h⟩
theorem isKey_str (s:ByteArray):IsKey .string (.string s):=by simp [IsKey]
theorem lookup_ok {c:Ctx} {h:qaa} (hs:HSim c h w) {T:TypeId} {x i:AV} {u v:Value} (hx:Rel c x u) (hi:Rel c i v) {ok:Bool} (hside:(aLookup P T x i ok h).side) :
  ∃ r,(Instr.lookup T u v ok).run P w=.ok r w∧Rel c (aLookup P T x i ok h).val r:=by
 unfold aLookup at hside ⊢
 split at hside
 ·
  rename_i k e o s hk
  split at hside
  ·
   rename_i es hes
   split at hside
   ·
    rename_i l z hl hz
    simp only [hes,hl,hz]
    obtain rfl:=strKeys_inv hl
    obtain ⟨b,rfl,hb⟩:=mapr_inv hx
    obtain rfl:=val_inv' hi
    obtain ⟨b',ces,clock,g1,g2,g3,g4⟩:=hs.obj o _ hes
    rw [hb] at g1
    cases g1
    have hE:=relE_of g3 g4
    have hT:=map_und hk
    have hK:=str_und hside
    obtain ⟨zv,hzr,hzrel⟩:=zeroAV_ok (P:=P) (w:=w) (c:=c) hz
    have hfind:=run_findKey (P:=P) (w:=w) (kt:=k) hK (findNow_kv s l ces.toList 0 hE)
    have hrun:∃ rv:Value×Bool,(Instr.lookup T (.map (some b)) (.string s) ok).run P w=.ok (if ok then .tuple #[rv.1,.bool rv.2] else rv.1) w∧Rel c ((kvGet l s).getD z) rv.1∧rv.2=(kvGet l s).isSome:=by
     rw [kvGet_idx]
     cases hj:kvIdx l s with
     | none =>
      rw [hj] at hfind
      refine ⟨(zv,false),?_,hzrel,rfl⟩
      simp only [Instr.lookup,Sem.run_bind,run_underlying hT,Result.andThen_ok,run_getObj_map g2,Sem.run_pure,run_checkKey hK (isKey_str s),hfind,Option.bind_none,hzr]
     | some j =>
      rw [hj] at hfind
      obtain ⟨pv,hp⟩:=kvIdx_key hj
      have hlt:j<ces.toList.length:=by rw [hE.1];exact kvIdx_lt hj
      have hce:ces.toList[j]?=some ces.toList[j]:=by simp [hlt]
      refine ⟨(ces.toList[j].val,true),?_,?_,by simp [hp]⟩
      · simp only [Instr.lookup,Sem.run_bind,run_underlying hT,Result.andThen_ok,run_getObj_map g2,Sem.run_pure,run_checkKey hK (isKey_str s),hfind,Option.bind_some,hce,Option.map_some]
      ·
       simp only [Option.bind_some,hp,Option.map_some,Option.getD_some]
       exact (hE.2 j _ _ hp hce).2
    obtain ⟨rv,hrun,hr2,hr3⟩:=hrun
    refine ⟨_,hrun,?_⟩
    cases ok with
    | false=>exact hr2
    | true =>
     refine .tuple _ _ (by simp) fun j x v hx hv=>?_
     match j with
     | 0=>simp at hx hv;subst hx;subst hv;exact hr2
     | 1=>simp at hx hv;subst hx;subst hv;rw [hr3];exact .val _
     | j+2=>simp at hx
   · exact hside.elim
  · exact hside.elim
 · exact hside.elim
end
end Go.Abs

namespace Go.Abs
open Go.MapKept
section
variable {P:Program}
theorem mapset_ok {E:Ent} {c:Ctx} {h:qaa} {w:World} (s:HSim c h w) (k:E.ok c h w) {i b:Nat} {l l':List (ByteArray×AV)} {ces ces':Array MapEntry} {clock clock':Nat}
  (hi:h[i]?=some (.map (qch l))) (hb:c.blk i=some b) (hh:w.heap[b]?=some (.map ces clock)) (hE:RelE c l' ces'.toList) :
  HSim c (h.set i (.map (qch l'))) { w with heap:=w.heap.setIfInBounds b (.map ces' clock') }∧E.ok c (h.set i (.map (qch l'))) { w with heap:=w.heap.setIfInBounds b (.map ces' clock') }:=by
 have hlt:b<w.heap.size:=(Array.getElem?_eq_some_iff.1 hh).1
 have hoth:∀ g,g≠b→({ w with heap:=w.heap.setIfInBounds b (.map ces' clock') }:World).heap[g]?=w.heap[g]?:=fun g hg=>(heap_set hh).2 g hg
 have hbo:qah c i (.map (qch l))=some b:=hb
 have hsize:({ w with heap:=w.heap.setIfInBounds b (.map ces' clock') }:World).heap.size=w.heap.size:=by simp
 have holt:∀ j o b',(h.set i (.map (qch l')))[j]?=some o→qah c j o=some b'→∃ o0,h[j]?=some o0∧qah c j o0=some b':=fun j o b' hj hb'=>by
  rcases qae hj with ⟨rfl,rfl⟩ | ⟨hne,h1⟩
  · exact ⟨_,hi,hb'⟩
  · exact ⟨o,h1,hb'⟩
 obtain ⟨e1,e2⟩:=of_relE hE
 constructor
 ·
  refine ⟨fun g j v hD=>?_,fun j hj=>s.dom j (by simpa using hj),fun j o hj=>?_,fun j j' o o' b' hj hj' hb1 hb2=>?_,fun j o b' m v hj hb1 hD=>?_⟩
  ·
   have hg:g≠b:=fun e=>by
    subst e
    exact s.sep i _ g j v hi hbo hD
   rw [World.cell?_of_block (w:=w) (hoth g hg)]
   exact s.data g j v hD
  ·
   rcases qae hj with ⟨rfl,rfl⟩ | ⟨hne,h1⟩
   · exact ⟨b,ces',clock',hb,(heap_set hh).1,e1,e2⟩
   ·
    refine (s.obj j o h1).keep (.refl c) (fun _=>rfl) fun b' hb'=>hoth b' fun e=>hne ?_
    subst e
    exact s.apart j i o _ b' h1 hi hb' hbo
  ·
   obtain ⟨o1,h1,h1'⟩:=holt j o b' hj hb1
   obtain ⟨o2,h2,h2'⟩:=holt j' o' b' hj' hb2
   exact s.apart j j' o1 o2 b' h1 h2 h1' h2'
  ·
   rcases qae hj with ⟨rfl,rfl⟩ | ⟨hne,h1⟩
   · have:=s.sep j (.map (qch l)) b' m v hi hb1 hD;exact this
   · exact s.sep j o b' m v h1 hb1 hD
 ·
  refine ⟨k.edom,k.ext,k.blk0,by simpa using k.len,k.os,k.tape,k.output,by rw [hsize];exact k.size,fun g hg hno=>?_,fun j o b' hj hb1=>?_,k.dold⟩
  ·
   have hne:g≠b:=fun e=>by
    subst e
    rcases k.newobj i _ g hi hbo with ⟨o0,h0,h1⟩ | h2
    · exact hno i o0 h0 h1
    · omega
   rw [hoth g hne]
   exact k.frame g hg hno
  ·
   obtain ⟨o1,h1,h1'⟩:=holt j o b' hj hb1
   exact k.newobj j o1 b' h1 h1'
theorem newmap_ok {E:Ent} {c:Ctx} {h:qaa} {w:World} (s:HSim c h w) (k:E.ok c h w) :
  ∃ c',c.le c'∧HSim c' (h++[.map []]) (w.alloc (.map #[] 0))∧E.ok c' (h++[.map []]) (w.alloc (.map #[] 0))∧c'.blk h.length=some w.heap.size:=by
 have hw:∀ b,b<w.heap.size→(w.alloc (.map #[] 0)).heap[b]?=w.heap[b]?:=fun b hb=>heap_alloc_old w _ b hb
 have s1:HSim c h (w.alloc (.map #[] 0)):=s.ext hw (.refl c) (fun _ _=>rfl) (fun _ _ _ h=>.inl h) s.dom
 have k1:E.ok c h (w.alloc (.map #[] 0)):=k.ext' s hw (.refl c) (fun _=>rfl) rfl rfl rfl (alloc_le w _) (fun _ _ _ h=>.inl h)
 have hle:c.le (c.addBlk h.length w.heap.size):=Ctx.addBlk_le (s.dom h.length (Nat.le_refl _)).1
 have hblk:(c.addBlk h.length w.heap.size).blk h.length=some w.heap.size:=by simp [Ctx.addBlk]
 have hb:∀ b',qah (c.addBlk h.length w.heap.size) h.length (.map [])=some b'→b'=w.heap.size:=fun b' hb'=>by
  simp only [qah,hblk,Option.some.injEq] at hb';exact hb'.symm
 exact ⟨_,hle,s1.push (s.fresh (Nat.le_refl _)) (s.noD (Nat.le_refl _)) ⟨_,#[],0,hblk,heap_alloc_new w _,rfl,fun j k x ce hx _=>by simp at hx⟩ hb,k1.push s1 k.size hb,hblk⟩
theorem run_makeMap {w:World} {T k e:TypeId} (hT:P.underlying T=some (.map k e)):∀ (r:Option Value),(∀ v,r=some v→∃ q n,v=.int q n)→(Instr.makeMap T r).run P w=.ok (.map (some w.heap.size)) (w.alloc (.map #[] 0))
 | none,_=>by simp [Instr.makeMap,Result.andThen,newObj,Sem.run]
 | some v,h=>by
  obtain ⟨q,n,rfl⟩:=h v rfl
  simp [Instr.makeMap,run_underlying hT,asInt,asIntOf,Result.andThen]
theorem update_ok {E:Ent} {c:Ctx} {h:qaa} {w:World} (s:HSim c h w) (k:E.ok c h w) {T kt et:TypeId} {i:Nat} {l:List (ByteArray×AV)} {key:ByteArray} {x:AV} {m v:Value} (hT:qaf P T=.map kt et) (hK:qaf P kt=.string)
  (hm:Rel c (.mapr i) m) (hx:Rel c x v) (hok:strOk (.string key)=true) (hi:h[i]?=some (.map (qch l))) :
  ∃ w',(Instr.mapUpdate T m (.string key) v).run P w=.ok () w'∧HSim c (h.set i (.map (qch (kvSet l key x)))) w'∧E.ok c (h.set i (.map (qch (kvSet l key x)))) w':=by
 obtain ⟨b,rfl,hb⟩:=mapr_inv hm
 obtain ⟨b',ces,clock,g1,g2,g3,g4⟩:=s.obj i _ hi
 rw [hb] at g1
 cases g1
 have hE:=relE_of g3 g4
 have hT':=map_und hT
 have hK':=str_und hK
 have hfind:=run_findKey (P:=P) (w:=w) (kt:=kt) hK' (findNow_kv key l ces.toList 0 hE)
 rw [kvSet_idx]
 cases hj:kvIdx l key with
 | none =>
  rw [hj] at hfind
  have hE':RelE c (l++[(key,x)]) (ces.push ⟨.string key,v,clock⟩).toList:=by
   refine ⟨by simp [hE.1],fun j p ce hp hc=>?_⟩
   simp only [Array.toList_push] at hc
   by_cases hlt:j<l.length
   ·
    rw [List.getElem?_append_left hlt] at hp
    rw [List.getElem?_append_left (by rw [hE.1];exact hlt)] at hc
    exact hE.2 j p ce hp hc
   ·
    rw [List.getElem?_append_right (by omega)] at hp
    rw [List.getElem?_append_right (by rw [hE.1];omega),hE.1] at hc
    cases hjl:j - l.length with
    | zero=>rw [hjl] at hp hc;simp at hp hc;subst hp;subst hc;exact ⟨⟨rfl,hok⟩,hx⟩
    | succ n=>rw [hjl] at hp;simp at hp
  obtain ⟨s',k'⟩:=mapset_ok (clock':=clock+1) s k hi hb g2 hE'
  refine ⟨_,?_,s',k'⟩
  simp only [Instr.mapUpdate,Sem.run_bind,run_underlying hT',Result.andThen_ok,run_getObj_map g2,run_checkKey hK' (isKey_str key),hfind,Option.bind_none,run_setObj_map _ g2]
 | some j =>
  rw [hj] at hfind
  obtain ⟨pv,hp⟩:=kvIdx_key hj
  have hlt:j<ces.size:=by have:=kvIdx_lt hj;rw [← hE.1] at this;simpa using this
  have hce:ces.toList[j]?=some ces[j]:=by simp [hlt]
  have hkey:=(hE.2 j _ _ hp hce).1.1
  have hE':RelE c (l.set j (key,x)) (ces.modify j fun e=>{ e with key:=.string key,val:=v }).toList:=by
   refine ⟨by simpa using hE.1,fun n p ce hp' hc=>?_⟩
   have hc':(ces.modify j fun e=>{ e with key:=.string key,val:=v })[n]?=some ce:=by rw [← Array.getElem?_toList];exact hc
   rw [Array.getElem?_modify] at hc'
   rcases qae hp' with ⟨rfl,rfl⟩ | ⟨hne,h1⟩
   ·
    rw [if_pos rfl] at hc'
    simp only [Option.map_eq_some_iff] at hc'
    obtain ⟨e0,_,rfl⟩:=hc'
    exact ⟨⟨rfl,hok⟩,hx⟩
   ·
    rw [if_neg (Ne.symm hne)] at hc'
    exact hE.2 n p ce h1 (by simpa using hc')
  obtain ⟨s',k'⟩:=mapset_ok (clock':=clock) s k hi hb g2 hE'
  refine ⟨_,?_,s',k'⟩
  have hg:ces[j]?=some ces[j]:=by simp [hlt]
  simp only [Instr.mapUpdate,Sem.run_bind,run_underlying hT',Result.andThen_ok,run_getObj_map g2,run_checkKey hK' (isKey_str key),hfind,Option.bind_some,hce,Option.map_some,Nat.zero_add,hg,Option.getD_some,hkey,run_keyThatStays (isKey_str key),run_setObj_map _ g2]
theorem delete_ok {E:Ent} {c:Ctx} {h:qaa} {w:World} (s:HSim c h w) (k:E.ok c h w) {T T' kt et ty:TypeId} {i:Nat} {l:List (ByteArray×AV)} {key:ByteArray} {m:Value} (hT:qaf P T=.map kt et) (hK:qaf P kt=.string)
  (hm:Rel c (.mapr i) m) (hi:h[i]?=some (.map (qch l))) :
  ∃ w',(Builtin.delete_ #[T,T'] ty #[m,.string key]).run P w=.ok (.tuple #[]) w'∧HSim c (h.set i (.map (qch (kvDel l key)))) w'∧E.ok c (h.set i (.map (qch (kvDel l key)))) w':=by
 obtain ⟨b,rfl,hb⟩:=mapr_inv hm
 obtain ⟨b',ces,clock,g1,g2,g3,g4⟩:=s.obj i _ hi
 rw [hb] at g1
 cases g1
 have hE:=relE_of g3 g4
 have hT':=map_und hT
 have hK':=str_und hK
 have hfind:=run_findKey (P:=P) (w:=w) (kt:=kt) hK' (findNow_kv key l ces.toList 0 hE)
 rw [kvDel_idx]
 cases hj:kvIdx l key with
 | none =>
  rw [hj] at hfind
  obtain ⟨s',k'⟩:=mapset_ok (clock':=clock) s k hi hb g2 hE
  refine ⟨_,?_,s',k'⟩
  simp [Builtin.delete_,run_underlying hT',Result.andThen_ok,run_getObj_map g2,run_checkKey hK' (isKey_str key),hfind,run_setObj_map _ g2]
 | some j =>
  rw [hj] at hfind
  have hlt:j<ces.size:=by have:=kvIdx_lt hj;rw [← hE.1] at this;simpa using this
  have hce:ces.toList[j]?=some ces[j]:=by simp [hlt]
  have hE':RelE c (l.eraseIdx j) (ces.eraseIdxIfInBounds j).toList:=by
   have hto:(ces.eraseIdxIfInBounds j).toList=ces.toList.eraseIdx j:=by
    simp [Array.eraseIdxIfInBounds,hlt]
   rw [hto]
   refine ⟨by rw [List.length_eraseIdx,List.length_eraseIdx,hE.1],fun n p ce hp hc=>?_⟩
   rw [List.getElem?_eraseIdx] at hp hc
   split at hp
   ·
    rename_i hn
    rw [if_pos hn] at hc
    exact hE.2 n p ce hp hc
   ·
    rename_i hn
    rw [if_neg hn] at hc
    exact hE.2 (n+1) p ce hp hc
  obtain ⟨s',k'⟩:=mapset_ok (clock':=clock) s k hi hb g2 hE'
  refine ⟨_,?_,s',k'⟩
  have hce':ces[j]?=some ces[j]:=by simp [hlt]
  simp [Builtin.delete_,run_underlying hT',Result.andThen_ok,run_getObj_map g2,run_checkKey hK' (isKey_str key),hfind,run_setObj_map _ g2,hce']
theorem iterset_ok {E:Ent} {c:Ctx} {h:qaa} {w:World} (s:HSim c h w) (k:E.ok c h w) {i b:Nat} {st:ByteArray} {p p':Nat}
  (hi:h[i]?=some (.iter st p)) (hb:c.blk i=some b) (hh:w.heap[b]?=some (.stringIter st p)) :
  HSim c (h.set i (.iter st p')) { w with heap:=w.heap.setIfInBounds b (.stringIter st p') }∧E.ok c (h.set i (.iter st p')) { w with heap:=w.heap.setIfInBounds b (.stringIter st p') }:=by
 have hlt:b<w.heap.size:=(Array.getElem?_eq_some_iff.1 hh).1
 have hoth:∀ g,g≠b→({ w with heap:=w.heap.setIfInBounds b (.stringIter st p') }:World).heap[g]?=w.heap[g]?:=fun g hg=>(heap_set hh).2 g hg
 have hbo:qah c i (.iter st p)=some b:=hb
 have hsize:({ w with heap:=w.heap.setIfInBounds b (.stringIter st p') }:World).heap.size=w.heap.size:=by simp
 have holt:∀ j o b',(h.set i (.iter st p'))[j]?=some o→qah c j o=some b'→∃ o0,h[j]?=some o0∧qah c j o0=some b':=fun j o b' hj hb'=>by
  rcases qae hj with ⟨rfl,rfl⟩ | ⟨hne,h1⟩
  · exact ⟨_,hi,hb'⟩
  · exact ⟨o,h1,hb'⟩
 constructor
 ·
  refine ⟨fun g j v hD=>?_,fun j hj=>s.dom j (by simpa using hj),fun j o hj=>?_,fun j j' o o' b' hj hj' hb1 hb2=>?_,fun j o b' m v hj hb1 hD=>?_⟩
  ·
   have hg:g≠b:=fun e=>by
    subst e
    exact s.sep i _ g j v hi hbo hD
   rw [World.cell?_of_block (w:=w) (hoth g hg)]
   exact s.data g j v hD
  ·
   rcases qae hj with ⟨rfl,rfl⟩ | ⟨hne,h1⟩
   · exact ⟨b,hb,(heap_set hh).1⟩
   ·
    refine (s.obj j o h1).keep (.refl c) (fun _=>rfl) fun b' hb'=>hoth b' fun e=>hne ?_
    subst e
    exact s.apart j i o _ b' h1 hi hb' hbo
  ·
   obtain ⟨o1,h1,h1'⟩:=holt j o b' hj hb1
   obtain ⟨o2,h2,h2'⟩:=holt j' o' b' hj' hb2
   exact s.apart j j' o1 o2 b' h1 h2 h1' h2'
  ·
   rcases qae hj with ⟨rfl,rfl⟩ | ⟨hne,h1⟩
   · have:=s.sep j (.iter st p) b' m v hi hb1 hD;exact this
   · exact s.sep j o b' m v h1 hb1 hD
 ·
  refine ⟨k.edom,k.ext,k.blk0,by simpa using k.len,k.os,k.tape,k.output,by rw [hsize];exact k.size,fun g hg hno=>?_,fun j o b' hj hb1=>?_,k.dold⟩
  ·
   have hne:g≠b:=fun e=>by
    subst e
    rcases k.newobj i _ g hi hbo with ⟨o0,h0,h1⟩ | h2
    · exact hno i o0 h0 h1
    · omega
   rw [hoth g hne]
   exact k.frame g hg hno
  ·
   obtain ⟨o1,h1,h1'⟩:=holt j o b' hj hb1
   exact k.newobj j o1 b' h1 h1'
theorem newiter_ok {E:Ent} {c:Ctx} {h:qaa} {w:World} (s:HSim c h w) (k:E.ok c h w) (st:ByteArray) :
  ∃ c',c.le c'∧HSim c' (h++[.iter st 0]) (w.alloc (.stringIter st 0))∧E.ok c' (h++[.iter st 0]) (w.alloc (.stringIter st 0))∧c'.blk h.length=some w.heap.size:=by
 have hw:∀ b,b<w.heap.size→(w.alloc (.stringIter st 0)).heap[b]?=w.heap[b]?:=fun b hb=>heap_alloc_old w _ b hb
 have s1:HSim c h (w.alloc (.stringIter st 0)):=s.ext hw (.refl c) (fun _ _=>rfl) (fun _ _ _ h=>.inl h) s.dom
 have k1:E.ok c h (w.alloc (.stringIter st 0)):=k.ext' s hw (.refl c) (fun _=>rfl) rfl rfl rfl (alloc_le w _) (fun _ _ _ h=>.inl h)
 have hle:c.le (c.addBlk h.length w.heap.size):=Ctx.addBlk_le (s.dom h.length (Nat.le_refl _)).1
 have hblk:(c.addBlk h.length w.heap.size).blk h.length=some w.heap.size:=by simp [Ctx.addBlk]
 have hb:∀ b',qah (c.addBlk h.length w.heap.size) h.length (.iter st 0)=some b'→b'=w.heap.size:=fun b' hb'=>by
  simp only [qah,hblk,Option.some.injEq] at hb';exact hb'.symm
 exact ⟨_,hle,s1.push (s.fresh (Nat.le_refl _)) (s.noD (Nat.le_refl _)) ⟨_,hblk,heap_alloc_new w _⟩ hb,k1.push s1 k.size hb,hblk⟩
theorem run_range_str {w:World} {T:TypeId} (hT:P.underlying T=some .string) (st:ByteArray):(Instr.range T (.string st)).run P w=.ok (.pointer (some ⟨w.heap.size,0,none⟩)) (w.alloc (.stringIter st 0)):=by
 simp [Instr.range,run_underlying hT,Result.andThen]
theorem run_next_str {w:World} {b:Nat} {st:ByteArray} {p:Nat} (hb:w.heap[b]?=some (.stringIter st p)) (ty:TypeId) :
  (Instr.next (.pointer (some ⟨b,0,none⟩)) true ty).run P w =
   if p<st.size then .ok (.tuple #[.bool true,goInt p,.int .i32 (Utf8.decode st p).1]) { w with heap:=w.heap.setIfInBounds b (.stringIter st (p+(Utf8.decode st p).2)) }
   else .ok (.tuple #[.bool false]) w:=by
 have hg:(getObj b).run P w=.ok (.stringIter st p) w:=by simp [getObj,Sem.run,hb]
 have hs:∀ o,(setObj b o).run P w=.ok () { w with heap:=w.heap.setIfInBounds b o }:=fun o=>by simp [setObj,Sem.run,hb]
 by_cases h:p<st.size
 · simp only [Instr.next,Sem.run_bind,hg,Result.andThen_ok,if_pos h,hs,Sem.run_pure]
 · simp only [Instr.next,Sem.run_bind,hg,Result.andThen_ok,if_neg h,Sem.run_pure]
end
end Go.Abs

namespace Go.Abs
theorem Rel.val_inv {c:Ctx} {x v:Value} (h:Rel c (.val x) v):v=x:=by
 cases h with
 | data h=>cases h;rfl
 | val=>rfl
theorem Rel.slice_inv {c:Ctx} {rows:List (List AV)} {v:Value}:Rel c (.slice rows) v→DRel c.D (.slice rows) v
 | .data h=>h
theorem qas {P:Program} {t:TypeId} {k:TK} (h:qaf P t=k) (hk:k≠.other) :
  ∃ i d z,P.info? t=some i∧P.underlying t=some d∧i.zero=some z∧qbf P d=k∧qar P t=i.size∧qa0 P t=z.cells.toList.map liftC∧z.cells.size=i.size∧∀ v,v∈z.cells.toList→v.oneCell'=true:=by
 unfold qaf at h
 unfold qar qa0
 split at h
 ·
  rename_i x hx
  obtain ⟨i,d,z,h1,h2,h3,rfl,h4,h5⟩:=ti_spec hx
  exact ⟨i,d,z,h1,h2,h3,h,by simp,by simp,h4,h5⟩
 · exact (hk h.symm).elim
theorem qbj {P:Program} {d:TypeDesc} {e sz:Nat} (h:qbf P d=.slice e sz):d=.slice e∧∃ i,P.info? e=some i∧i.size=sz:=by
 cases d with
 | slice e' =>
  simp only [qbf] at h
  split at h
  ·
   rename_i hs
   simp only [TK.slice.injEq] at h
   obtain ⟨rfl,rfl⟩:=h
   obtain ⟨i,hi⟩:=Option.isSome_iff_exists.1 hs
   exact ⟨rfl,i,hi,by simp [Program.cellsOf,hi]⟩
  · cases h
 | struct fs=>simp only [qbf] at h;split at h<;>cases h
 | array n e=>simp only [qbf] at h;split at h<;>cases h
 | _=>simp [qbf] at h
theorem kind_array {P:Program} {d:TypeDesc} {n e sz:Nat} (h:qbf P d=.array n e sz):d=.array n e∧∃ i,P.info? e=some i∧i.size=sz:=by
 cases d with
 | array n' e' =>
  simp only [qbf] at h
  split at h
  ·
   rename_i hs
   simp only [TK.array.injEq] at h
   obtain ⟨rfl,rfl,rfl⟩:=h
   obtain ⟨i,hi⟩:=Option.isSome_iff_exists.1 hs
   exact ⟨rfl,i,hi,by simp [Program.cellsOf,hi]⟩
  · cases h
 | struct fs=>simp only [qbf] at h;split at h<;>cases h
 | slice e=>simp only [qbf] at h;split at h<;>cases h
 | _=>simp [qbf] at h
theorem kind_struct {P:Program} {d:TypeDesc} {fs:List (Nat×Nat)} (h:qbf P d=.struct fs) :
  ∃ l,d=.struct l∧(∀ f,f∈l.toList→∃ i,P.info? f.type=some i)∧fs=l.toList.map fun f=>(f.offset,P.cellsOf f.type):=by
 cases d with
 | struct l =>
  simp only [qbf] at h
  split at h
  ·
   rename_i hs
   simp only [TK.struct.injEq] at h
   exact ⟨l,rfl,fun f hf=>Option.isSome_iff_exists.1 (List.all_eq_true.1 hs f hf),h.symm⟩
  · cases h
 | array n e=>simp only [qbf] at h;split at h<;>cases h
 | slice e=>simp only [qbf] at h;split at h<;>cases h
 | _=>simp [qbf] at h
theorem kind_string {P:Program} {d:TypeDesc} (h:qbf P d=.string):d=.string:=by
 cases d<;>simp only [qbf] at h<;>first | rfl | (split at h<;>cases h) | cases h
theorem kind_bool {P:Program} {d:TypeDesc} (h:qbf P d=.bool):d=.bool:=by
 cases d<;>simp only [qbf] at h<;>first | rfl | (split at h<;>cases h) | cases h
theorem kind_int {P:Program} {d:TypeDesc} {k:IntKind} (h:qbf P d=.int k):d=.int k:=by
 cases d<;>simp only [qbf] at h<;>first | (split at h<;>cases h) | (cases h;done) | (simp only [TK.int.injEq] at h;rw [h])
theorem qay {P:Program} {t:TypeId} {d:TypeDesc} (h:P.underlying t=some d) (w:World):(underlying t).run P w=.ok d w:=run_underlying h w
theorem qba {P:Program} {t:TypeId} {i:TypeInfo} (h:P.info? t=some i) (w:World):(sizeOf t).run P w=.ok i.size w:=by
 simp [sizeOf,run_typeInfo _ h]
theorem run_isAggD {P:Program} {t:TypeId} {d:TypeDesc} (h:P.underlying t=some d) (hk:qbf P d≠.other) (w:World):(isAgg t).run P w=.ok (qbf P d).agg w:=by
 simp only [isAgg,Sem.run_bind,qay h,Result.andThen_ok]
 cases d<;>first | rfl | (simp only [qbf] at hk ⊢;split<;>first | rfl | (rename_i hs;simp [hs] at hk))
theorem toList_inj {a b:ByteArray}:(a.toList == b.toList)=decide (a=b):=by
 have hl:∀ x:ByteArray,x.toList=x.data.toList:=fun x=>ByteArray.toList_eq x
 rw [hl,hl]
 by_cases h:a=b
 · subst h;simp
 ·
  have:a.data.toList≠b.data.toList:=fun e=>h (by
   cases a;cases b;simp at e;simp [e])
  rw [beq_eq_false_iff_ne.2 this,decide_eq_false h]
theorem run_equalIn_bool {P:Program} {t:TypeId} (hu:P.underlying t=some .bool) (a b:Bool) (w:World) (n:Nat):(Op.equalIn (n+1) t (.bool a) (.bool b)).run P w=.ok (a == b) w:=by
 simp [Op.equalIn,qay hu]
theorem run_eql_bool {P:Program} {t:TypeId} (hu:P.underlying t=some .bool) (a b:Bool) (w:World):(binOp .eql t (.bool a) (.bool b)).run P w=.ok (.bool (decide (a=b))) w:=by
 show (do pure (.bool (← Op.equalIn (9999+1) t (.bool a) (.bool b))):Sem Value).run P w=_
 simp only [Sem.run_bind,run_equalIn_bool hu,Result.andThen_ok,Sem.run_pure]
 cases a<;>cases b<;>rfl
theorem run_neq_bool {P:Program} {t:TypeId} (hu:P.underlying t=some .bool) (a b:Bool) (w:World):(binOp .neq t (.bool a) (.bool b)).run P w=.ok (.bool (!decide (a=b))) w:=by
 show (do pure (.bool (!(← Op.equalIn (9999+1) t (.bool a) (.bool b)))):Sem Value).run P w=_
 simp only [Sem.run_bind,run_equalIn_bool hu,Result.andThen_ok,Sem.run_pure]
 cases a<;>cases b<;>rfl
section
variable {P:Program} {c:Ctx} {h:qaa} {w:World}
theorem fit_rel:∀ {ks:List TK} {xs:List AV} {vs:List Value},xs.length=vs.length→(∀ (j:Nat) (x:AV) (v:Value),xs[j]?=some x→vs[j]?=some v→Rel c x v)→fitA ks xs→fitV ks vs∧xs=vs.map AV.val
 | [],[],[],_,_,_=>⟨trivial,rfl⟩
 | [],_::_,_,_,_,h=>by simp [fitA] at h
 | k::ks,[],_,_,_,h=>by cases k<;>simp [fitA] at h
 | _::_,_::_,[],hl,_,_=>by simp at hl
 | [],[],_::_,hl,_,_=>by simp at hl
 | k::ks,x::xs,v::vs,hl,hr,h=>by
  have h0:=hr 0 x v rfl rfl
  have ih:=fun h'=>fit_rel (ks:=ks) (xs:=xs) (vs:=vs) (by simpa using hl) (fun j x v hx hv=>hr (j+1) x v (by simpa using hx) (by simpa using hv)) h'
  cases k<;>cases x<;>first | (simp [fitA] at h;done) | skip
  all_goals rename_i u;cases u<;>first | (simp [fitA] at h;done) | skip
  · obtain rfl:=h0.val_inv;simpa [fitV] using ih (by simpa [fitA] using h)
  · obtain rfl:=h0.val_inv;simp only [fitA] at h;have:=ih h.2;simpa [fitV,h.1] using this
  · obtain rfl:=h0.val_inv;simpa [fitV] using ih (by simpa [fitA] using h)
theorem eqA_eqV:∀ {ks:List TK} {xs ys:List Value},fitV ks xs→fitV ks ys→eqA (xs.map AV.val) (ys.map AV.val)=eqV xs ys
 | [],[],[],_,_=>rfl
 | [],_::_,_,h,_=>by simp [fitV] at h
 | [],[],_::_,_,h=>by simp [fitV] at h
 | k::ks,[],_,h,_=>by cases k<;>simp [fitV] at h
 | k::ks,_::_,[],_,h=>by cases k<;>simp [fitV] at h
 | k::ks,x::xs,y::ys,hx,hy=>by
  cases k<;>cases x<;>simp only [fitV] at hx<;>first | (exact hx.elim) | skip
  all_goals cases y<;>simp only [fitV] at hy<;>first | (exact hy.elim) | skip
  · simp [eqA,eqV,eqA_eqV hx hy]
  · simp [eqA,eqV,eqA_eqV hx.2 hy.2]
  · simp [eqA,eqV,eqA_eqV hx hy]
theorem agg_eq {T:TypeId} {xs ys:List AV} {u v:Value} (hx:Rel c (.agg xs) u) (hy:Rel c (.agg ys) v) (hne:flatOf P T≠[]) (h1:fitA (flatOf P T) xs) (h2:fitA (flatOf P T) ys) (op:BinOp) (hop:(op matches .eql | .neq)=true) (xo yo:Operand) :
  (eqGuard op T xo yo u v).run P w=.ok () w∧(Op.equal T u v).run P w=.ok (eqA xs ys) w∧∃ us vs,u=.agg us∧v=.agg vs:=by
 obtain ⟨us,rfl,hul,hur⟩:∃ us,u=.agg us∧us.size=xs.length∧∀ (j:Nat) (x:AV) (v:Value),xs[j]?=some x→us[j]?=some v→Rel c x v:=by
  cases hx with
  | data h=>cases h
  | agg _ vs hl _ h=>exact ⟨vs,rfl,hl,h⟩
 obtain ⟨vs,rfl,hvl,hvr⟩:∃ us,v=.agg us∧us.size=ys.length∧∀ (j:Nat) (x:AV) (v:Value),ys[j]?=some x→us[j]?=some v→Rel c x v:=by
  cases hy with
  | data h=>cases h
  | agg _ vs hl _ h=>exact ⟨vs,rfl,hl,h⟩
 unfold flatOf at hne h1 h2
 split at hne
 ·
  rename_i hc
  rw [if_pos hc] at h1 h2
  cases hf:flatEq P 8 T with
  | none=>rw [hf] at hne;exact (hne rfl).elim
  | some ks =>
   rw [hf] at h1 h2
   simp only [Option.getD_some] at h1 h2
   obtain ⟨f1,rfl⟩:=fit_rel (vs:=us.toList) (by simp [hul]) (fun j x v hx hv=>hur j x v hx (by simpa using hv)) h1
   obtain ⟨f2,rfl⟩:=fit_rel (vs:=vs.toList) (by simp [hvl]) (fun j x v hx hv=>hvr j x v hx (by simpa using hv)) h2
   have hmk:∀ zs:Array Value,mkV P T zs.toList=.agg zs:=by
    obtain ⟨kd,hu⟩:=flat_und hf
    have:∃ fs,kd=.struct fs:=by
     unfold flatEq at hf
     rw [hu] at hf
     have hk:(qaf P T).agg=true:=hc.2
     unfold qaf at hk
     cases ht:ti P T with
     | none=>rw [ht] at hk;simp [TK.agg] at hk
     | some x =>
      rw [ht] at hk
      obtain ⟨i,d,z,_,h4,_,rfl,_⟩:=ti_spec ht
      rw [hu] at h4
      cases h4
      simp only at hk
      split at hf
      · rename_i h;cases h;simp [qbf,TK.agg] at hk
      · rename_i h;cases h;simp [qbf,TK.agg] at hk
      · rename_i h;cases h;simp [qbf,TK.agg] at hk
      · rename_i fs h;cases h;exact ⟨_,rfl⟩
      · cases hf
    obtain ⟨fs,rfl⟩:=this
    intro zs
    simp [mkV,hu]
   have he:=run_equalIn_flat (w:=w) 8 9992 T ks hf us.toList vs.toList f1 f2
   rw [hmk,hmk] at he
   rw [eqA_eqV f1 f2]
   refine ⟨?_,he,us,vs,rfl,rfl⟩
   cases op<;>simp at hop<;>simp [eqGuard,hc.1]
 · exact (hne rfl).elim
theorem iface_und {t:TypeId} (h:qaf P t=.iface):∃ ms,P.underlying t=some (.interface ms):=by
 obtain ⟨i,d,z,h1,h2,h3,h4,_⟩:=qas h (by simp)
 cases d with
 | interface ms=>exact ⟨ms,h2⟩
 | struct fs=>simp only [qbf] at h4;split at h4<;>cases h4
 | array n e=>simp only [qbf] at h4;split at h4<;>cases h4
 | slice e=>simp only [qbf] at h4;split at h4<;>cases h4
 | _=>cases h4
theorem any_und {t:TypeId} (h:anyT P t=true):∃ ms,P.underlying t=some (.interface ms)∧ms.isEmpty=true:=by
 unfold anyT at h
 split at h
 · rename_i ms hu;exact ⟨ms,hu,h⟩
 · cases h
theorem run_equal_ifn' {t a:TypeId} {ms} (hu:P.underlying t=some (.interface ms)) {v:Value} (n:Nat):(Op.equalIn (n+1) t (.iface a v) .nilIface).run P w=.ok false w:=by
 simp [Op.equalIn,qay hu]
theorem run_equal_ifn {t a:TypeId} {ms} (hu:P.underlying t=some (.interface ms)) {v:Value}:(Op.equalIn 10000 t (.iface a v) .nilIface).run P w=.ok false w:=run_equal_ifn' hu 9999
theorem run_equal_nn' {t:TypeId} {ms} (hu:P.underlying t=some (.interface ms)) (n:Nat):(Op.equalIn (n+1) t .nilIface .nilIface).run P w=.ok true w:=by
 simp [Op.equalIn,qay hu]
theorem run_equal_nn {t:TypeId} {ms} (hu:P.underlying t=some (.interface ms)):(Op.equalIn 10000 t .nilIface .nilIface).run P w=.ok true w:=run_equal_nn' hu 9999
theorem guard_in {t:TypeId} {ms} (hu:P.underlying t=some (.interface ms)) (hms:ms.isEmpty=true) (n:Nat):(Op.eqGuardIn (n+1) t .nilIface .nilIface).run P w=.ok false w:=by
 simp [Op.eqGuardIn,qay hu,hms]
theorem guard_nn {op:BinOp} {t:TypeId} {ms} (hu:P.underlying t=some (.interface ms)) (hms:ms.isEmpty=true) {xo yo:Operand}:(eqGuard op t xo yo .nilIface .nilIface).run P w=.ok () w:=by
 have h1:(Op.eqGuardIn Op.maxDepth t .nilIface .nilIface).run P w=.ok false w:=guard_in hu hms 9999
 unfold eqGuard
 cases op<;>simp [h1]<;>(try split)<;>simp [h1]
theorem bin_ok {op:BinOp} {T:TypeId} {x y:AV} {xo yo:Operand} {u v:Value} (hx:Rel c x u) (hy:Rel c y v) (hs:(aBin P op T x y).side) :
  ∃ r,((do eqGuard op T xo yo u v;binOp op T u v:Sem Value)).run P w=.ok r w∧Rel c (aBin P op T x y).val r:=by
 unfold aBin at *
 split at hs
 ·
  rename_i k a k' b
  obtain rfl:=hx.val_inv
  obtain rfl:=hy.val_inv
  split at hs
  · exact ⟨_,by simp [eqGuard,binOp,Op.shift,Int.not_lt.2 hs],.val _⟩
  · exact ⟨_,by simp [eqGuard,binOp,Op.shift,Int.not_lt.2 hs],.val _⟩
  ·
   obtain ⟨rfl,hs⟩:=hs
   cases op<;>simp only [aInt,SV.no] at hs ⊢<;>first | (exact hs.elim) | skip
   all_goals simp [eqGuard,binOp,Op.intArith,Op.intDiv,Op.intCmp,Op.intBits, *]
   all_goals first | exact .val _ | (rename_i hne;exact .val _) | skip
 ·
  rename_i a b
  obtain rfl:=hx.val_inv
  obtain rfl:=hy.val_inv
  cases op<;>simp only [aStr,SV.no] at hs ⊢<;>first | (exact hs.elim) | skip
  case add =>
   have hm:¬ (((a.size+b.size:Nat):Int) > IntKind.i64.max):=by rw [IntKind.max_i64];omega
   refine ⟨_,?_,.val _ (by simpa [strOk,ByteArray.size_append] using hs)⟩
   simp only [eqGuard_add,pure_bind,binOp,Op.stringOp,if_neg hm,Sem.run_pure]
  all_goals simp [eqGuard,binOp,Op.stringOp,toList_inj,sLt]
  all_goals exact .val _
 ·
  rename_i a b
  obtain rfl:=hx.val_inv
  obtain rfl:=hy.val_inv
  cases op<;>simp only [SV.no] at hs ⊢<;>first | (exact hs.elim) | skip
  ·
   obtain ⟨i,d,z,h1,h2,h3,h4,_⟩:=qas hs (by simp)
   obtain rfl:=kind_bool h4
   exact ⟨_,by simp only [eqGuard_at_bool,pure_bind];exact run_eql_bool h2 a b w,.val _⟩
  ·
   obtain ⟨i,d,z,h1,h2,h3,h4,_⟩:=qas hs (by simp)
   obtain rfl:=kind_bool h4
   exact ⟨_,by simp only [eqGuard_at_bool,pure_bind];exact run_neq_bool h2 a b w,.val _⟩
 ·
  rename_i xs ys
  cases op<;>simp only [SV.no] at hs ⊢<;>first | (exact hs.elim) | skip
  ·
   obtain ⟨g1,g2,us,vs,rfl,rfl⟩:=agg_eq (w:=w) hx hy hs.1 hs.2.1 hs.2.2 .eql rfl xo yo
   exact ⟨_,by simp only [Sem.run_bind,g1,Result.andThen_ok,binOp,g2,Sem.run_pure],.val _⟩
  ·
   obtain ⟨g1,g2,us,vs,rfl,rfl⟩:=agg_eq (w:=w) hx hy hs.1 hs.2.1 hs.2.2 .neq rfl xo yo
   exact ⟨_,by simp only [Sem.run_bind,g1,Result.andThen_ok,binOp,g2,Sem.run_pure],.val _⟩
 ·
  rename_i t x'
  obtain rfl:=hy.val_inv
  obtain ⟨v',rfl⟩:∃ v',u=.iface t v':=by
   cases hx with
   | data h=>cases h
   | iface _ _ v' h=>exact ⟨v',rfl⟩
  cases op<;>simp only [SV.no] at hs ⊢<;>first | (exact hs.elim) | skip
  ·
   obtain ⟨ms,hu⟩:=iface_und hs
   exact ⟨_,by simp only [eqGuard,binOp,Sem.run_bind,Op.equal,Op.maxDepth,run_equal_ifn hu];simp [eqGuard],.val _⟩
  ·
   obtain ⟨ms,hu⟩:=iface_und hs
   exact ⟨_,by simp only [eqGuard,binOp,Sem.run_bind,Op.equal,Op.maxDepth,run_equal_ifn hu];simp [eqGuard],.val _⟩
 ·
  obtain rfl:=hx.val_inv
  obtain rfl:=hy.val_inv
  cases op<;>simp only [SV.no] at hs ⊢<;>first | (exact hs.elim) | skip
  ·
   obtain ⟨ms,hu,hms⟩:=any_und hs
   exact ⟨_,by simp only [Sem.run_bind,guard_nn hu hms,Result.andThen_ok,binOp,Op.equal,Op.maxDepth,run_equal_nn hu];simp,.val _⟩
  ·
   obtain ⟨ms,hu,hms⟩:=any_und hs
   exact ⟨_,by simp only [Sem.run_bind,guard_nn hu hms,Result.andThen_ok,binOp,Op.equal,Op.maxDepth,run_equal_nn hu];simp,.val _⟩
 · exact hs.elim
end
end Go.Abs
