/- Part 2 of a proof. -/
import Derived.Test.YtolejdhnnchfpaaGreatDoorR01
set_option linter.all false
set_option maxRecDepth 100000
set_option maxHeartbeats 4000000

namespace Go.Abs
section
variable{t:TypeId}{e sz:Nat}
theorem Rel.val_inv{c:Ctx}{x v:Value}(h:Rel c (.val x) v):v=x:=by
 cases h with
 |data h=>cases h;rfl
 |val=>rfl
theorem Rel.slice_inv{c:Ctx}{S:List (List V)}{v:Value}:Rel c (.slice S) v->DRel c.D (.slice S) v
 | .data h=>h
def rk{P:Program}{k:TK}(h:nj P t=k)(hk:k≠.other) :
  ∃i d hI,P.info? t=some i/\P.underlying t=some d/\i.zero=some hI/\u9 P d=k/\oh P t=i.size/\o8 P t=hI.cells.toList.map bD/\hI.cells.size=i.size/\∀v,v∈hI.cells.toList->v.oneCell'=true:=by
 grind[HS,nj,oh,o8]
def cH{P:Program}{d:TypeDesc}(h:u9 P d=.slice e sz):d=.slice e/\∃i,P.info? e=some i/\i.size=sz:=by
 cases d with
 |slice e' =>
  simp only[u9]at h;split at h
  .rename_i hs;simp only[TK.slice.injEq]at h;obtain⟨rfl,rfl⟩:=h;obtain⟨i,hi⟩:=Option.isSome_iff_exists.1 hs;exact⟨rfl,i,hi,by simp[Program.cellsOf,hi]⟩
  cases h
 |struct fs=>simp only[u9]at h;split at h<;>cases h
 |array n e=>simp only[u9]at h;split at h<;>cases h
 |_=>simp[u9]at h
def CU{P:Program}{d:TypeDesc}{n:Nat}(h:u9 P d=.array n e sz):d=.array n e/\∃i,P.info? e=some i/\i.size=sz:=by
 cases d with
 |array n' e' =>
  simp only[u9]at h;split at h
  .rename_i hs;simp only[TK.array.injEq]at h;obtain⟨rfl,rfl,rfl⟩:=h;obtain⟨i,hi⟩:=Option.isSome_iff_exists.1 hs;exact⟨rfl,i,hi,by simp[Program.cellsOf,hi]⟩
  cases h
 |struct fs=>simp only[u9]at h;split at h<;>cases h
 |slice e=>simp only[u9]at h;split at h<;>cases h
 |_=>simp[u9]at h
def MM{P:Program}{d:TypeDesc}{fs:List (Nat×Nat)}(h:u9 P d=.struct fs) :
  ∃l,d=.struct l/\(∀f,f∈l.toList->∃i,P.info? f.type=some i)/\fs=l.toList.map λf=>(f.offset,P.cellsOf f.type):=by
 cases d with
 |struct l =>
  simp only[u9]at h;split at h
  .rename_i hs;simp only[TK.struct.injEq]at h;exact⟨l,rfl,λf hf=>Option.isSome_iff_exists.1 (jk.1 hs f hf),h.symm⟩
  cases h
 |array n e=>simp only[u9]at h;split at h<;>cases h
 |slice e=>simp only[u9]at h;split at h<;>cases h
 |_=>simp[u9]at h
def Ea{P:Program}{d:TypeDesc}(h:u9 P d=.string):d=.string:=by exact Qaw
def Ls{P:Program}{d:TypeDesc}(h:u9 P d=.bool):d=.bool:=by exact Qaw
def PJ{P:Program}{d:TypeDesc}{k:IntKind}(h:u9 P d=.int k):d=.int k:=by cases d<;>simp only[u9]at h<;>first|(split at h<;>cases h)|(cases h;done)|(simp only[TK.int.injEq]at h;rw[h])
theorem vo{P:Program}{d:TypeDesc}(h:P.underlying t=some d)(w:World):(underlying t).run P w=.ok d w:=kx h w
theorem eO{P:Program}{i:TypeInfo}(h:P.info? t=some i)(w:World):(sizeOf t).run P w=.ok i.size w:=by simp[sizeOf,run_typeInfo _ h]
def I6{P:Program}{d:TypeDesc}(h:P.underlying t=some d)(hk:u9 P d≠.other)(w:World):(isAgg t).run P w=.ok (u9 P d).agg w:=by simp only[isAgg,iu,vo h,iv];cases d<;>first|rfl|(simp only[u9]at hk|-;split<;>first|rfl|(rename_i hs;simp[hs]at hk))
theorem toList_inj{a b:ByteArray}:(a.toList == b.toList)=decide (a=b):=by
 have hl:∀x:ByteArray,x.toList=x.data.toList:=λx=>ByteArray.toList_eq x;rw[hl,hl];by_cases h:a=b
 .grind
 have:a.data.toList≠b.data.toList:=λe=>h (by cases a;cases b;simp at e;simp[e])
 grind
theorem run_equalIn_bool{P:Program}(Q:P.underlying t=some .bool)(a b:Bool)(w:World)(n:Nat):(Op.equalIn (n+1) t (.bool a) (.bool b)).run P w=.ok (a == b) w:=by simp[Op.equalIn,vo Q]
def run_eql_bool{P:Program}(Q:P.underlying t=some .bool)(a b:Bool)(w:World):(binOp .eql t (.bool a) (.bool b)).run P w=.ok (.bool (decide (a=b))) w:=by show(do pure (.bool (<-Op.equalIn (9999+1) t (.bool a) (.bool b))):Sem Value).run P w=_;simp only[iu,run_equalIn_bool Q,iv,je];grind
def run_neq_bool{P:Program}(Q:P.underlying t=some .bool)(a b:Bool)(w:World):(binOp .neq t (.bool a) (.bool b)).run P w=.ok (.bool (!decide (a=b))) w:=by show(do pure (.bool (!(<-Op.equalIn (9999+1) t (.bool a) (.bool b)))):Sem Value).run P w=_;simp only[iu,run_equalIn_bool Q,iv,je];grind
end
section
variable {P:Program} {c:Ctx} {h:mz} {w:World}
section
variable{T t:TypeId}{u v:Value}{xo yo:Operand}
def Js:∀{ks:List TK} {xs:List V} {vs:List Value},xs.length=vs.length->(∀(j:Nat) (x:V) (v:Value),xs[j]?=some x->vs[j]?=some v->Rel c x v)->iL ks xs->uu ks vs/\xs=vs.map V.val
 | [],[],[],_,_,_=>⟨trivial,rfl⟩
 | [],_::_,_,_,_,h=>by simp[iL]at h
 |k::ks,[],_,_,_,h=>by cases k<;>simp[iL]at h
 |_::_,_::_,[],hl,_,_=>by simp at hl
 | [],[],_::_,hl,_,_=>by simp at hl
 |k::ks,x::xs,v::vs,hl,G,h=>by
  have L:=G 0 x v rfl rfl;have ih:=λY=>Js (ks:=ks) (xs:=xs) (vs:=vs) W (λj x v hx hv=>G (j+1) x v W W) Y;cases k<;>cases x<;>first|(simp[iL]at h;done)|skip
  all_goals rename_i u;cases u<;>first|(simp[iL]at h;done)|skip
  .obtain rfl:=L.val_inv;simpa[uu]using ih (by grind[iL])
  .obtain rfl:=L.val_inv;simp only[iL]at h;have:=ih h.2;simpa[uu,h.1]using this
  obtain rfl:=L.val_inv;simpa[uu]using ih (by grind[iL])
theorem FU:∀{ks:List TK} {xs ys:List Value},uu ks xs->uu ks ys->rZ (xs.map V.val) (ys.map V.val)=eV xs ys
 | [],[],[],_,_=>rfl
 | [],_::_,_,h,_=>by simp[uu]at h
 | [],[],_::_,_,h=>by simp[uu]at h
 |k::ks,[],_,h,_=>by cases k<;>simp[uu]at h
 |k::ks,_::_,[],_,h=>by cases k<;>simp[uu]at h
 |k::ks,x::xs,y::ys,hx,hy=>by
  cases k<;>cases x<;>simp only[uu]at hx<;>first|(exact hx.elim)|skip
  all_goals cases y<;>simp only[uu]at hy<;>first|(exact hy.elim)|skip
  .simp[rZ,eV,FU hx hy]
  .simp[rZ,eV,FU hx.2 hy.2]
  simp[rZ,eV,FU hx hy]
def OY{xs ys:List V}(hx:Rel c (.agg xs) u)(hy:Rel c (.agg ys) v)(nv:jS P T≠[])(O:iL (jS P T) xs)(U:iL (jS P T) ys)(op:BinOp)(p8:(op matches .eql| .neq)=true)(xo yo:Operand) :
  (eqGuard op T xo yo u v).run P w=.ok () w/\(Op.equal T u v).run P w=.ok (rZ xs ys) w/\∃us vs,u=.agg us/\v=.agg vs:=by
 obtain⟨us,rfl,eD,hur⟩:∃us,u=.agg us/\us.size=xs.length/\∀(j:Nat) (x:V) (v:Value),xs[j]?=some x->us[j]?=some v->Rel c x v:=by
  cases hx with
  |data h=>cases h
  |agg _ vs hl _ h=>exact⟨vs,rfl,hl,h⟩
 obtain⟨vs,rfl,hvl,hvr⟩:∃us,v=.agg us/\us.size=ys.length/\∀(j:Nat) (x:V) (v:Value),ys[j]?=some x->us[j]?=some v->Rel c x v:=by
  cases hy with
  |data h=>cases h
  |agg _ vs hl _ h=>exact⟨vs,rfl,hl,h⟩
 unfold jS at nv O U;split at nv
 .rename_i hc;rw[gh hc]at O U;cases hf:mP P 8 T with
  |none=>rw[hf]at nv;exact(nv rfl).elim
  |some ks =>
   rw[hf]at O U;simp only[l6]at O U;obtain⟨f1,rfl⟩:=Js (vs:=us.toList) (by simp[eD]) (λj x v hx hv=>hur j x v hx W) O;obtain⟨f2,rfl⟩:=Js (vs:=vs.toList) (by simp[hvl]) (λj x v hx hv=>hvr j x v hx W) U;have hmk:∀zs:Array Value,nQ P T zs.toList=.agg zs:=by
    obtain⟨kd,Q⟩:=PD hf;have:∃fs,kd=.struct fs:=by grind[TK.agg,u9,mP,nj,HS]
    obtain⟨fs,rfl⟩:=this;intro zs;simp[nQ,Q]
   have he:=OP (w:=w) 8 9992 T ks hf us.toList vs.toList f1 f2;rw[hmk,hmk]at he;rw[FU f1 f2];refine⟨?_,he,us,vs,rfl,rfl⟩;cases op<;>simp at p8<;>simp[eqGuard,hc.1]
 grind
def Nw(h:nj P t=.iface):∃ms,P.underlying t=some (.interface ms):=by
 obtain⟨i,d,hI,O,U,h3,h4,_⟩:=rk h Z;cases d with
 |interface ms=>exact⟨ms,U⟩
 |struct fs=>simp only[u9]at h4;split at h4<;>cases h4
 |array n e=>simp only[u9]at h4;split at h4<;>cases h4
 |slice e=>simp only[u9]at h4;split at h4<;>cases h4
 |_=>cases h4
def RH(h:Ew P t=true):∃ms,P.underlying t=some (.interface ms)/\ms.isEmpty=true:=by grind[Ew]
def Vv{a:TypeId}{ms}(Q:P.underlying t=some (.interface ms))(n:Nat):(Op.equalIn (n+1) t (.iface a v) .nilIface).run P w=.ok false w:=by simp[Op.equalIn,vo Q]
theorem qu2{a:TypeId}{ms}(Q:P.underlying t=some (.interface ms)):(Op.equalIn 10000 t (.iface a v) .nilIface).run P w=.ok false w:=Vv Q 9999
def qn1{ms}(Q:P.underlying t=some (.interface ms))(n:Nat):(Op.equalIn (n+1) t .nilIface .nilIface).run P w=.ok true w:=by simp[Op.equalIn,vo Q]
theorem quu{ms}(Q:P.underlying t=some (.interface ms)):(Op.equalIn 10000 t .nilIface .nilIface).run P w=.ok true w:=qn1 Q 9999
def Vk{ms}(Q:P.underlying t=some (.interface ms))(qX:ms.isEmpty=true)(n:Nat):(Op.eqGuardIn (n+1) t .nilIface .nilIface).run P w=.ok false w:=by simp[Op.eqGuardIn,vo Q,qX]
theorem qvo{op:BinOp}{ms}(Q:P.underlying t=some (.interface ms))(qX:ms.isEmpty=true):(eqGuard op t xo yo .nilIface .nilIface).run P w=.ok () w:=by
 have O:(Op.eqGuardIn Op.maxDepth t .nilIface .nilIface).run P w=.ok false w:=Vk Q qX 9999;unfold eqGuard
 simp_all
def Vf{op:BinOp}{x y:V}(hx:Rel c x u)(hy:Rel c y v)(hs:(ET P op T x y).side) :
  ∃r,((do eqGuard op T xo yo u v;binOp op T u v:Sem Value)).run P w=.ok r w/\Rel c (ET P op T x y).val r:=by
 unfold ET at *;split at hs
 .rename_i k a k' b;obtain rfl:=hx.val_inv;obtain rfl:=hy.val_inv;split at hs
  .exact⟨_,qhy,.val _⟩
  .exact⟨_,qhy,.val _⟩
  obtain⟨rfl,hs⟩:=hs;cases op<;>simp only[FZ,SV.no]at hs|-<;>first|(exact hs.elim)|skip
  all_goals simp[eqGuard,binOp,Op.intArith,Op.intDiv,Op.intCmp,Op.intBits, *]
  all_goals first|exact .val _|(rename_i nv;exact .val _)|skip
 .rename_i a b;obtain rfl:=hx.val_inv;obtain rfl:=hy.val_inv;cases op<;>simp only[KI,SV.no]at hs|-<;>first|(exact hs.elim)|skip
  case add =>
   have hm:¬(((a.size+b.size:Nat):Int) > IntKind.i64.max):=by rw[IntKind.max_i64];omega
   refine⟨_,?_,.val _ (by grind[iU,qj1])⟩;simp only[eqGuard_add,pure_bind,binOp,Op.stringOp,gg hm,je]
  all_goals simp[eqGuard,binOp,Op.stringOp,toList_inj,px]
  all_goals exact .val _
 .rename_i a b;obtain rfl:=hx.val_inv;obtain rfl:=hy.val_inv;cases op<;>simp only[SV.no]at hs|-<;>first|(exact hs.elim)|skip
  .obtain⟨i,d,hI,O,U,h3,h4,_⟩:=rk hs Z;obtain rfl:=Ls h4;exact⟨_,by simp only[eqGuard_at_bool,pure_bind];exact run_eql_bool U a b w,.val _⟩
  obtain⟨i,d,hI,O,U,h3,h4,_⟩:=rk hs Z;obtain rfl:=Ls h4;exact⟨_,by simp only[eqGuard_at_bool,pure_bind];exact run_neq_bool U a b w,.val _⟩
 .rename_i xs ys;cases op<;>simp only[SV.no]at hs|-<;>first|(exact hs.elim)|skip
  .obtain⟨g1,g2,us,vs,rfl,rfl⟩:=OY (w:=w) hx hy hs.1 hs.2.1 hs.2.2 .eql rfl xo yo;exact⟨_,qgs,.val _⟩
  obtain⟨g1,g2,us,vs,rfl,rfl⟩:=OY (w:=w) hx hy hs.1 hs.2.1 hs.2.2 .neq rfl xo yo;exact⟨_,qgs,.val _⟩
 .rename_i t x';obtain rfl:=hy.val_inv;obtain⟨v',rfl⟩:∃v',u=.iface t v':=by
   cases hx with
   |data h=>cases h
   |iface _ _ v' h=>exact⟨v',rfl⟩
  cases op<;>simp only[SV.no]at hs|-<;>first|(exact hs.elim)|skip
  .obtain⟨ms,Q⟩:=Nw hs;exact⟨_,qf9,.val _⟩
  obtain⟨ms,Q⟩:=Nw hs;exact⟨_,qf9,.val _⟩
 .obtain rfl:=hx.val_inv;obtain rfl:=hy.val_inv;cases op<;>simp only[SV.no]at hs|-<;>first|(exact hs.elim)|skip
  .obtain⟨ms,Q,qX⟩:=RH hs;exact⟨_,qf3,.val _⟩
  obtain⟨ms,Q,qX⟩:=RH hs;exact⟨_,qf3,.val _⟩
 exact hs.elim
end
end
end Go.Abs

namespace Go.Abs
def Ed{α:Type}(p:Nat->α->Prop):∀n,(∀j,j<n->∃v,p j v)->∃vs:List α,vs.length=n/\∀j v,vs[j]?=some v->p j v
 | 0,_=>⟨[],rfl,Z⟩
 |n+1,h=>by
  obtain⟨vs,hl,hp⟩:=Ed p n (λj hj=>h j J);obtain⟨v,hv⟩:=h n J;refine⟨vs++[v],fl,λj u Q=>?_⟩;rcases ve Q with O|⟨rfl,rfl⟩
  .exact hp j u O
  rw[hl];exact hv
section
variable {P:Program} {c:Ctx} {h:mz} {w:World}
section
variable{t T:TypeId}{o i off e sz r cap f:Nat}{xs:List V}{v u:Value}{S:List (List V)}
theorem cM(b o n:Nat):Addr.add ⟨b,o,none⟩ n=⟨b,o+n,none⟩:=Addr.add_lit b o n
theorem Ao{b:Nat}(hk:nj P t≠.other)
  (hc:∀(j:Nat) (x:V),xs[j]?=some x->∃v,w.cell? ⟨b,o+j,none⟩=some v/\Rel c x v/\v.oneCell'=true)
  (hs:(kK (oh P t) (nj P t).agg xs).side):∃v,(loadVar t ⟨b,o,none⟩).run P w=.ok v w/\Rel c (kK (oh P t) (nj P t).agg xs).val v:=by
 obtain⟨i,d,hI,O,U,h3,h4,h5,_⟩:=rk rfl hk;have ha:=I6 U W w;rw[h4]at ha;unfold loadVar;simp only[iu,ha,iv];cases hag:(nj P t).agg with
 |true =>
  simp only[hag,kK]at hs|-;obtain⟨vs,hl,hp⟩:=Ed (λj v=>w.cell? ⟨b,o+j,none⟩=some v/\(∀x,xs[j]?=some x->Rel c x v)/\v.oneCell'=true) (oh P t) (λj hj=>by have ni:j<xs.length:=J;obtain⟨v,hv,G,O⟩:=hc j xs[j] ba;exact⟨v,hv,λx hx=>by simp[ni]at hx;subst hx;exact G,O⟩)
  have pj:=run_loadCells_list (P:=P) w ⟨b,o,none⟩ vs (λj v hv=>by rw[cM];exact(hp j v hv).1);rw[hl,h5]at pj;refine⟨.agg vs.toArray,by simp[eO O,pj],.agg _ _ W (λj v hv=>(hp j v W).2.2) λj x v hx hv=>?_⟩;rw[jo]at hx;grind
 |false =>
  simp only[hag,kK]at hs|-;obtain⟨v,hv,G,_⟩:=hc 0 (xs.getD 0 .top) W
  simp_all
def HV{cells:List V}(G:Rel c (.eptr cells) v) :
  ∃b o,v=.pointer (some ⟨b,o,none⟩)/\(∀(j:Nat) (x:V),cells[j]?=some x->∃u,c.D b (o+j)=some u/\DRel c.D x u):=by
 cases G with
 |data h=>cases h
 |eptr cells b o g hD h=>exact⟨b,o,rfl,λj x hx=>⟨g j,hD j x hx,h j x hx⟩⟩
def G3{cells:List V}{b:Nat}(h:∀(j:Nat) (x:V),cells[j]?=some x->∃u,c.D b (o+j)=some u/\DRel c.D x u):Rel c (.eptr cells) (.pointer (some ⟨b,o,none⟩)) :=
 .eptr cells b o (λj=>(c.D b (o+j)).getD undef) (λj x hx=>by obtain⟨u,Q,_⟩:=h j x hx;simp[Q]) (λj x hx=>by obtain⟨u,Q,hd⟩:=h j x hx;simpa[Q]using hd)
theorem As(G:Rel c (.ptr i off) v):∃b,v=.pointer (some ⟨b,off,none⟩)/\c.blk i=some b:=by
 cases G with
 |data h=>cases h
 |ptr i off b h=>exact⟨b,rfl,h⟩
def T9(hs:HSim c h w)(G:Rel c (.ptr i off) v)(hi:h[i]?=some (.cells xs)) :
  ∃b,v=.pointer (some ⟨b,off,none⟩)/\c.blk i=some b/\(∀(j:Nat) (x:V),(xs.drop off)[j]?=some x->∃u,w.cell? ⟨b,off+j,none⟩=some u/\Rel c x u/\u.oneCell'=true):=by
 obtain⟨b,rfl,hb⟩:=As G;refine⟨b,rfl,hb,λj x hx=>?_⟩;obtain⟨b',vs,T,O,U,h3,h4⟩:=hs.obj i _ hi;rw[hb]at O;cases O;rw[kj]at hx;have ni:off+j<vs.size:=W;have:=h4 (off+j) x vs[off+j] hx ba;exact⟨vs[off+j],by rw[cell_of_row w b _ vs T (0,0) U];simp[ni],this⟩
def Bb(hs:HSim c h w){n:Nat}(hi:h[i]?=some (.uarr e sz S))(hn:S.length=n)(G:Rel c (.own i n) v) :
  c.sl i n=some v/\∃vs,w.ownsRow 0 e sz v n vs/\(∀r,r∈S->r.length=sz)/\∀(i' j:Nat) (r:List V) (x:V),S[i']?=some r->r[j]?=some x->∃u,vs[i' * sz+j]?=some u/\DRel c.D x u:=by
 subst hn;cases G with
 |data h=>cases h
 |own i n v hv ho =>
  obtain⟨v',vs,O,_,_,U,_,h4,h5⟩:=hs.obj i _ hi;grind
def Hv(hs:HSim c h w){n:Nat}(hi:h[i]?=some (.oarr e sz S))(hn:S.length=n)(G:Rel c (.own i n) v) :
  c.sl i n=some v/\∃vs,w.ownsRow 0 e sz v n vs/\(∀r,r∈S->r.length=sz)/\∀(i' j:Nat) (r:List V) (x:V),S[i']?=some r->r[j]?=some x->∃u,vs[i' * sz+j]?=some u/\Rel c x u/\u.oneCell'=true:=by
 subst hn;cases G with
 |data h=>cases h
 |own i n v hv ho =>
  obtain⟨v',vs,O,_,_,U,_,h4,h5⟩:=hs.obj i _ hi;grind
def BJ{n q:Nat}(G:Rel c (.optr i n sz r q) v):∃b o len cap,v=.pointer (some ⟨b,o+(r * sz+q),none⟩)/\c.sl i n=some (.slice (some ⟨b,o,none⟩) len cap):=by
 cases G with
 |data h=>cases h
 |optr _ _ _ _ _ b o len cap h=>exact⟨b,o,len,cap,rfl,h⟩
def qre(hs:HSim c h w){n:Nat}(hi:h[i]?=some (.uarr e sz S))(hn:S.length=n){b len:Nat}(hv:c.sl i n=some (.slice (some ⟨b,o,none⟩) len cap))(G:r<S.length) :
  o=0/\∀(j:Nat) (x:V),(S.getD r [])[j]?=some x->∃u,w.cell? ⟨b,r * sz+j,none⟩=some u/\DRel c.D x u:=by
 subst hn;obtain⟨v',vs,O,_,_,U,_,h4,h5⟩:=hs.obj i _ hi;rw[hv]at O;cases O;have hg:(Value.slice (some ⟨b,o,none⟩) len cap).ownBlock=some b:=rfl;constructor
 .rcases U.2 with⟨e1,_⟩|⟨g,cp,nu,e1,_⟩
  .cases e1
  grind
 intro j x hx;have td:S[r]?=some (S.getD r []):=W;obtain⟨u,Q,hd⟩:=h5 r j _ x td hx;have:=U.cells hg _ u Q
 simp_all[cM,im]
def Tp(hs:HSim c h w){n:Nat}(hi:h[i]?=some (.oarr e sz S))(hn:S.length=n){b len:Nat}(hv:c.sl i n=some (.slice (some ⟨b,o,none⟩) len cap))(G:r<S.length) :
  o=0/\∀(j:Nat) (x:V),(S.getD r [])[j]?=some x->∃u,w.cell? ⟨b,r * sz+j,none⟩=some u/\Rel c x u/\u.oneCell'=true:=by
 subst hn;obtain⟨v',vs,O,_,_,U,_,h4,h5⟩:=hs.obj i _ hi;rw[hv]at O;cases O;have hg:(Value.slice (some ⟨b,o,none⟩) len cap).ownBlock=some b:=rfl;constructor
 .rcases U.2 with⟨e1,_⟩|⟨g,cp,nu,e1,_⟩
  .cases e1
  grind
 intro j x hx;have td:S[r]?=some (S.getD r []):=W;obtain⟨u,Q,hd⟩:=h5 r j _ x td hx;have:=U.cells hg _ u Q
 simp_all[cM,im]
def Mi{a:V}(hs:HSim c h w)(G:Rel c a u)(nq:(zS P t a h).side) :
  ∃v,(Instr.loadAt t u).run P w=.ok v w/\Rel c (zS P t a h).val v:=by
 unfold zS at nq|-;cases a with
 |ptr i off =>
  simp only at nq|-;cases hi:h[i]? with
  |none=>simp[hi,SV.no]at nq
  |some ob =>
   cases ob with
   |cells xs =>
    simp only[hi]at nq|-;obtain⟨b,rfl,hb,hc⟩:=T9 hs G hi;obtain⟨v,hv,pq⟩:=Ao (P:=P) (t:=t) nq.2 hc nq.1;exact⟨v,by simp[Instr.loadAt,Instr.sureAddr,hv],pq⟩
   |_=>simp[hi,SV.no]at nq
 |eptr cells =>
  simp only at nq|-;obtain⟨b,o,rfl,hc⟩:=HV G;obtain⟨v,hv,pq⟩:=Ao (P:=P) (w:=w) (t:=t) (c:=c) (b:=b) (o:=o) nq.2 (λj x hx=>by obtain⟨u,Q,hd⟩:=hc j x hx;exact⟨u,hs.data _ _ _ Q,.data hd,hd.one⟩) nq.1
  exact⟨v,by simp[Instr.loadAt,Instr.sureAddr,hv],pq⟩
 |optr i n sz r q =>
  simp only at nq|-;cases hi:h[i]? with
  |none=>simp[hi,SV.no]at nq
  |some ob =>
   cases ob with
   |uarr e rr S =>
    simp only[hi]at nq|-;obtain⟨hn,rfl,o6,hl,hk⟩:=nq;obtain⟨b,o,len,cap,rfl,hv⟩:=BJ G;obtain⟨rfl,hc⟩:=qre hs hi hn hv o6;obtain⟨v,fB,pq⟩:=Ao (P:=P) (w:=w) (t:=t) (c:=c) (b:=b) (o:=0+(r * rr+q)) hk (λj x hx=>by rw[kj]at hx;obtain⟨u,Q,hd⟩:=hc _ x hx;exact⟨u,qie,.data hd,hd.one⟩) hl
    exact⟨v,qf8,pq⟩
   |oarr e rr S =>
    simp only[hi]at nq|-;obtain⟨hn,rfl,o6,hl,hk⟩:=nq;obtain⟨b,o,len,cap,rfl,hv⟩:=BJ G;obtain⟨rfl,hc⟩:=Tp hs hi hn hv o6;obtain⟨v,fB,pq⟩:=Ao (P:=P) (w:=w) (t:=t) (c:=c) (b:=b) (o:=0+(r * rr+q)) hk (λj x hx=>by rw[kj]at hx;obtain⟨u,Q,hd⟩:=hc _ x hx;exact⟨u,qie,hd⟩) hl
    exact⟨v,qf8,pq⟩
   |_=>simp[hi,SV.no]at nq
 |_=>exact nq.elim
def qkg{s n:Nat}(hf:CZ P s f=some (o,n)):∃l fd i,P.underlying s=some (.struct l)/\l[f]?=some fd/\fd.offset=o/\P.info? fd.type=some i/\i.size=n/\0<n:=by
 unfold CZ at hf;split at hf
 .rename_i fs hk;obtain⟨i,d,hI,O,U,h3,h4,h5,_⟩:=rk hk Z;obtain⟨l,rfl,nz,rfl⟩:=MM h4;split at hf
  .rename_i o' n' hl;split at hf
   .cases hf
   rename_i hn;cases hf;simp only[ja,iy,Prod.mk.injEq]at hl;obtain⟨fd,hfd,rfl,rfl⟩:=hl;obtain⟨i',qj⟩:=nz fd (gw hfd);refine⟨l,fd,i',U,by simpa using hfd,rfl,qj,by simp[Program.cellsOf,qj],J⟩
  cases hf
 cases hf
theorem que{s n b:Nat}(hf:CZ P s f=some (o,n)):(Instr.fieldAt s (.pointer (some ⟨b,off,none⟩)) f).run P w=.ok (.pointer (some ⟨b,off+o,none⟩)) w:=by obtain⟨l,fd,i,O,U,rfl,h3,rfl,h4⟩:=qkg hf;have nv:¬i.size=0:=J;simp[Instr.fieldAt,vo O,U,Instr.sureAddr,fieldPlace,eO h3,nv,cM]
def Xg{x i:V}(hs:HSim c h w)(hx:Rel c x u)(hi:Rel c i v)(nq:(Ab P T x i h).side) :
  ∃r,(Instr.indexAt T u v).run P w=.ok r w/\Rel c (Ab P T x i h).val r:=by
 unfold Ab at nq|-;split at nq
 .rename_i e sz S k n hk;obtain⟨L,ni,td,p6⟩:=nq;obtain rfl:=hi.val_inv;obtain⟨i',d,hI,O,U,h3,h4,h5,_⟩:=rk hk Z;obtain⟨rfl,ie,r5,rfl⟩:=cH h4;have hd:=hx.slice_inv;cases hd with
  |nil=>simp at ni
  |empty a=>simp at ni
  |slice S b off cap sz g bS hB hc hD G =>
   have hrow':S[n.toNat]?=some (S.getD n.toNat []):=W;have hszeq:sz=ie.size:=W;subst hszeq;have pD:(0<=n/\n<(S.length:Int)):=⟨L,J⟩
   refine⟨.pointer (some ⟨b,off+n.toNat * ie.size,none⟩),?_,G3 λj x hx=>?_⟩
   .simp[Instr.indexAt,asIntOf,vo U,pD,eO r5,cM]
   grind
 .rename_i len e sz o off k n hk;obtain⟨L,ni,p6⟩:=nq;obtain rfl:=hi.val_inv;obtain⟨i',d,hI,O,U,h3,h4,h5,_⟩:=rk hk Z;obtain⟨rfl,ie,r5,rfl⟩:=CU h4;obtain⟨b,rfl,hb⟩:=As hx;have pD:(0<=n/\n<(len:Int)):=⟨L,J⟩
  exact⟨.pointer (some ⟨b,off+n.toNat * ie.size,none⟩),qft,.ptr _ _ _ hb⟩
 .rename_i len e sz cells k n hk;obtain⟨L,ni,p6⟩:=nq;obtain rfl:=hi.val_inv;obtain⟨i',d,hI,O,U,h3,h4,h5,_⟩:=rk hk Z;obtain⟨rfl,ie,r5,rfl⟩:=CU h4;obtain⟨b,off,rfl,hc⟩:=HV hx;have pD:(0<=n/\n<(len:Int)):=⟨L,J⟩
  refine⟨.pointer (some ⟨b,off+n.toNat * ie.size,none⟩),qft,G3 λj x hx=>?_⟩;rw[kj]at hx;grind
 .rename_i len e sz o m rr r q k n hk;obtain⟨L,ni,p6⟩:=nq;obtain rfl:=hi.val_inv;obtain⟨i',d,hI,O,U,h3,h4,h5,_⟩:=rk hk Z;obtain⟨rfl,ie,r5,rfl⟩:=CU h4;obtain⟨b,o',len',cap,rfl,hv⟩:=BJ hx;have pD:(0<=n/\n<(len:Int)):=⟨L,J⟩
  refine⟨.pointer (some ⟨b,o'+(r * rr+q)+n.toNat * ie.size,none⟩),qft,?_⟩;have:=Rel.optr (c:=c) o m rr r (q+n.toNat * ie.size) b o' len' cap hv;grind
 .rename_i e sz o m k n hk;split at nq
  .rename_i e' rr S ho;simp only[ho];obtain⟨hm,rfl,L,ni,p6⟩:=nq;obtain rfl:=hi.val_inv;obtain⟨i',d,hI,O,U,h3,h4,h5,_⟩:=rk hk Z;obtain⟨rfl,ie,r5,rfl⟩:=cH h4;obtain⟨hv,vs,tp,_⟩:=Bb hs ho hm hx;rcases tp.2 with⟨rfl,hz⟩|⟨g,cap,nu,rfl,_⟩
   .omega
   have pD:(0<=n/\n<(m:Int)):=⟨L,J⟩
   exact Qax
  .rename_i e' rr S ho;simp only[ho];obtain⟨hm,rfl,L,ni,p6⟩:=nq;obtain rfl:=hi.val_inv;obtain⟨i',d,hI,O,U,h3,h4,h5,_⟩:=rk hk Z;obtain⟨rfl,ie,r5,rfl⟩:=cH h4;obtain⟨hv,vs,tp,_⟩:=Hv hs ho hm hx;rcases tp.2 with⟨rfl,hz⟩|⟨g,cap,nu,rfl,_⟩
   .omega
   have pD:(0<=n/\n<(m:Int)):=⟨L,J⟩
   exact Qax
  exact nq.elim
 exact nq.elim
def XT{x i:V}(hx:Rel c x u)(hi:Rel c i v)(nq:(Eh P T x i).side) :
  ∃r,(Instr.index T u v).run P w=.ok r w/\Rel c (Eh P T x i).val r:=by
 unfold Eh at nq|-;split at nq
 .rename_i s k n hk;obtain⟨L,ni⟩:=nq;obtain rfl:=hi.val_inv;obtain rfl:=hx.val_inv;obtain⟨i',d,hI,O,U,h3,h4,h5,_⟩:=rk hk Z;obtain rfl:=Ea h4;have hb:(if 0<=n then s[n.toNat]? else none)=some (EA s n):=by
   have O:s.data.size=s.size:=rfl;have hlt':n.toNat<s.data.size:=J;rw[gh L];show(if h:n.toNat<s.size then some s[n.toNat]else none)=_;rw[dif_pos ni];congr 1;show s.data[n.toNat]=_;grind[EA,List.getD,ky]
  exact⟨_,by simp[Instr.index,asIntOf,vo U,hb],.val _⟩
 .rename_i len e sz cs k n hk;obtain⟨L,ni,qn,rfl,ho,hag⟩:=nq;obtain rfl:=hi.val_inv;obtain⟨i',d,hI,O,U,h3,h4,h5,_⟩:=rk hk Z;obtain⟨rfl,ie,r5,p6⟩:=CU h4;obtain⟨i2,d2,z2,g1,g2,g3,g4,g5,_⟩:=rk rfl ho;have ha:=I6 g2 W w;rw[g4,hag]at ha;have pD:(0<=n/\n<(len:Int)):=⟨L,J⟩
  cases hx with
  |data hd=>cases hd
  |agg _ vs hl tc G =>
   have hlv:n.toNat<vs.size:=J;refine⟨vs[n.toNat],?_,G n.toNat _ _ W (by simp[hlv])⟩;simp[Instr.index,asIntOf,vo U,pD,eO r5,p6,part,ha,hlv]
 exact nq.elim
def WU{x:V}(hs:HSim c h w)(hx:Rel c x u)(nq:(zX P T x h).side)(ty:TypeId) :
  ∃r,(Builtin.len_ #[T] ty #[u]).run P w=.ok r w/\Rel c (zX P T x h).val r:=by
 have oy:(Builtin.len_ #[T] ty #[u]).run P w=(do
   match <-underlying T,u with
   | .string,.string s=>pure (goInt s.size)
   | .array n _,_=>pure (goInt n)
   | .pointer arr,_ =>
    let .array n _ <-underlying arr|stuck "len: pointer to array expected"
    pure (goInt n)
   | .slice _,.slice _ n _=>pure (goInt n)
   | .map _ _,.map none| .chan _ _,.chan none=>pure (goInt 0)
   | .map _ _,.map (some r) =>
    let .map entries _ <-getObj r|stuck "len: map expected"
    pure (goInt entries.size)
   | .chan _ _,.chan (some r) =>
    let .chan _ buf _ _ _ timer <-getObj r|stuck "len: channel expected"
    pure (goInt (if timer then 0 else buf.size))
   |_,_=>stuck "len: string, array, pointer to array, slice, map or channel expected":Sem Value).run P w:=by
  rfl
 rw[oy];unfold zX at nq|-;split at nq
 .rename_i e sz S hk;obtain⟨i',d,hI,O,U,h3,h4,h5,_⟩:=rk hk Z;obtain⟨rfl,ie,r5,rfl⟩:=cH h4;have hd:=hx.slice_inv;cases hd with
  |nil=>exact⟨.int .i64 0,cm,.val _⟩
  |empty a=>exact⟨.int .i64 0,cm,.val _⟩
  |slice S b off cap sz g bS hB hc hD G=>exact⟨.int .i64 S.length,cm,.val _⟩
 .rename_i e sz hk;obtain⟨i',d,hI,O,U,h3,h4,h5,_⟩:=rk hk Z;obtain⟨rfl,ie,r5,rfl⟩:=cH h4;cases hx with
  |data h=>cases h
  |nils=>exact⟨.int .i64 0,cm,.val _⟩
 .rename_i e sz o m hk;split at nq
  .rename_i e' rr S ho;simp only[ho];obtain⟨i',d,hI,O,U,h3,h4,h5,_⟩:=rk hk Z;obtain⟨rfl,ie,r5,rfl⟩:=cH h4;obtain⟨hv,vs,tp,_⟩:=Bb hs ho nq hx;have hm:S.length=m:=nq;rcases tp.2 with⟨rfl,hz⟩|⟨g,cap,nu,rfl,_⟩
   .exact⟨.int .i64 0,cm,by rw[hm,hz];exact .val _⟩
   exact⟨.int .i64 m,cm,by rw[hm];exact .val _⟩
  .rename_i e' rr S ho;simp only[ho];obtain⟨i',d,hI,O,U,h3,h4,h5,_⟩:=rk hk Z;obtain⟨rfl,ie,r5,rfl⟩:=cH h4;obtain⟨hv,vs,tp,_⟩:=Hv hs ho nq hx;have hm:S.length=m:=nq;rcases tp.2 with⟨rfl,hz⟩|⟨g,cap,nu,rfl,_⟩
   .exact⟨.int .i64 0,cm,by rw[hm,hz];exact .val _⟩
   exact⟨.int .i64 m,cm,by rw[hm];exact .val _⟩
  exact nq.elim
 .rename_i s hk;obtain⟨i',d,hI,O,U,h3,h4,h5,_⟩:=rk hk Z;obtain rfl:=Ea h4;obtain rfl:=hx.val_inv;exact⟨.int .i64 s.size,cm,.val _⟩
 .rename_i y n e sz hk;obtain⟨i',d,hI,O,U,h3,h4,h5,_⟩:=rk hk Z;obtain⟨rfl,ie,r5,rfl⟩:=CU h4;exact⟨.int .i64 n,cm,.val _⟩
 .rename_i k e i hk;split at nq
  .rename_i es hes;simp only[hes];obtain⟨b,rfl,hb⟩:=Gi hx;obtain⟨b',qt,wz,g1,g2,g3,_⟩:=hs.obj i _ hes;rw[hb]at g1;cases g1;have hT:=Dt hk;exact⟨.int .i64 es.length,by simp[kx hT,Go.MapKept.run_getObj_map g2,goInt,g3],.val _⟩
  exact nq.elim
 exact nq.elim
end
end
end Go.Abs

namespace Go.Abs
theorem Rel.one{c:Ctx}{x:V}{v:Value}(h:Rel c x v)(O:x.one=true):v.oneCell'=true:=by
 cases h with
 |data h=>exact h.one
 |top v=>simp[V.one]at O
 |val v=>exact O
 |nils=>rfl
 |agg=>simp[V.one]at O
 |tuple=>simp[V.one]at O
 |ptr=>rfl
 |eptr=>rfl
 |lit=>rfl
 |cap=>rfl
 |optr=>rfl
 |mapr=>rfl
 |fn=>rfl
 |iface=>rfl
 |own i n v h ho=>exact ho
 |opt=>simp[V.one]at O
theorem PX{v:Value}(h:v.oneCell'=true):v.cells = #[v]:=by cases v<;>first|rfl|simp[Value.oneCell']at h
theorem Rel.cells{c:Ctx}{x:V}{v:Value}(h:Rel c x v)(O:x.cellsOk=true) :
  v.cells.size=x.cells.length/\∀(j:Nat) (y:V) (u:Value),x.cells[j]?=some y->v.cells[j]?=some u->Rel c y u/\u.oneCell'=true:=by
 have single:∀(x:V) (v:Value),Rel c x v->x.one=true->x.cells=[x]->v.cells.size=x.cells.length/\∀(j:Nat) (y:V) (u:Value),x.cells[j]?=some y->v.cells[j]?=some u->Rel c y u/\u.oneCell'=true:=by intro x v G ho hx;have hv:=G.one ho;grind[PX]
 cases x with
 |agg xs =>
  cases h with
  |data h=>cases h
  |agg xs vs hl ho G=>exact⟨hl,λj y u hy Q=>⟨G j y u hy Q,ho j u Q⟩⟩
 |top=>simp[V.cellsOk,V.one]at O
 |tuple=>simp[V.cellsOk,V.one]at O
 |opt=>simp[V.cellsOk,V.one]at O
 |_=>exact single _ _ h O rfl
section
variable {P:Program} {c:Ctx} {h:mz} {w:World}
section
variable{T src dst:TypeId}{u v:Value}{y:V}
def G7{d:Int}{x:Option V}{u:Option Value}{n:Int}(hb:BF d x=some n)(hx:∀a,x=some a->∃v,u=some v/\Rel c a v)(hn:x=none->u=none) :
  (u=none/\n=d)\/(∃k,u=some (.int k n)):=by
 unfold BF at hb;split at hb
 .grind
 .rename_i k m;obtain⟨v,hv,G⟩:=hx _ rfl;obtain rfl:=G.val_inv;grind
 cases hb
theorem Cn{k:IntKind}{n:Int}{y:Nat}{code:BoundsCode}(L:0<=n)(O:n<=y):(Instr.sliceBound (.int k n) y code).run P w=.ok n.toNat w:=by simp[Instr.sliceBound,asIntOf,L,O]
def FD{isS:Bool}{len cap:Nat}{lo hi:Option Value}{l Y:Int}(hl:(lo=none/\l=0)\/∃k,lo=some (.int k l))(hh:(hi=none/\Y=len)\/∃k,hi=some (.int k Y))
  (L:0<=l) (O:l<=Y) (U:Y<=len) (h3:len<=cap):(Instr.sliceBounds isS len cap lo hi none).run P w=.ok (l.toNat,Y.toNat,cap) w:=by
 have hc:Y<=cap:=J;have hn:l<=(Y.toNat:Int):=J;have jR:0<=Y:=J;rcases hl with⟨rfl,rfl⟩|⟨k,rfl⟩<;>rcases hh with⟨rfl,rfl⟩|⟨k',rfl⟩
 .simp[Instr.sliceBounds]
 .simp[Instr.sliceBounds,Cn jR hc]
 .simp[Instr.sliceBounds,Cn L O]
 simp[Instr.sliceBounds,Cn jR hc,Cn L hn]
theorem Xv{x hi mx:V}{hv mv:Value}(hx:Rel c x u)(hh:Rel c hi hv)(hm:Rel c mx mv)(nq:(Eu P T x hi mx).side):∃r,(Instr.sliceAt T u none (some hv) (some mv)).run P w=.ok r w/\Rel c (Eu P T x hi mx).val r:=by
 unfold Eu at nq|-;split at nq
 .rename_i ik k ih n;obtain rfl:=hm.val_inv;obtain rfl:=hh.val_inv;split at nq
  .rename_i e sz S hk;obtain⟨i',d,hI,O,U,h3,h4,h5,_⟩:=rk hk Z;obtain⟨rfl,ie,r5,rfl⟩:=cH h4;obtain⟨L,s7,rfl⟩:=nq;have hd:=hx.slice_inv;have pj:∀cap:Nat,S.length<=cap->(Instr.sliceBounds true S.length cap none (some (.int ih k)) (some (.int ik k))).run P w=.ok (0,k.toNat,k.toNat) w:=λcap hc=>by
    have q1:k<=(cap:Int):=J;have q2:k<=(k.toNat:Int):=J;simp[Instr.sliceBounds,Cn L q1,Cn L q2]
   cases hd with
   |nil =>
    have hk0:k=0:=W;subst hk0;refine⟨.slice none 0 0,?_,.cap _ none 0 (by simpa using .nil)⟩;exact Qay
   |empty a =>
    have hk0:k=0:=W;subst hk0;refine⟨.slice (some a) 0 0,?_,.cap _ (some a) 0 (by simpa using .empty a)⟩;exact Qay
   |slice S b off cap sz g bS hB xn hD G =>
    have hl:(S.take k.toNat).length=k.toNat:=W;have wb:∀(i:Nat) (r:List V),(S.take k.toNat)[i]?=some r->S[i]?=some r:=λi r hi=>by grind
    refine⟨.slice (some ⟨b,off,none⟩) k.toNat k.toNat,?_,.cap _ _ _ ?_⟩
    .have:=pj cap xn;simp[Instr.sliceAt,Instr.slice,vo U,this,eO r5,cM]
    have:=DRel.slice (D:=c.D) (S.take k.toNat) b off k.toNat sz g (λr o6=>bS r (qi2 o6)) J J (λi j r x o6 um=>hD i j r x (wb i r o6) um) (λi j r x o6 um=>G i j r x (wb i r o6) um)
    rwa [hl]at this
  exact nq.elim
 exact nq.elim
def V7{x:V}{lo hi mx:Option V}{lo' qj mx':Option Value}(hx:Rel c x u)
  (hlo:∀a,lo=some a->∃v,lo'=some v/\Rel c a v) (hlo0:lo=none->lo'=none) (hhi:∀a,hi=some a->∃v,qj=some v/\Rel c a v) (hhi0:hi=none->qj=none) (hmx1:∀a,mx=some a->∃v,mx'=some v/\Rel c a v) (hmx:mx=none->mx'=none)
  (nq:(DZ P T x lo hi mx).side):∃r,(Instr.sliceAt T u lo' qj mx').run P w=.ok r w/\Rel c (DZ P T x lo hi mx).val r:=by
 unfold DZ at nq|-;split at nq
 .split at nq
  .obtain rfl:=hlo0 rfl;obtain⟨hv,rfl,hh⟩:=hhi _ rfl;obtain⟨mv,rfl,hm⟩:=hmx1 _ rfl
   simp_all[Xv]
  exact nq.elim
 obtain rfl:=hmx rfl;split at nq
 .rename_i e sz S hk;obtain⟨i',d,hI,O,U,h3,h4,h5,_⟩:=rk hk Z;obtain⟨rfl,ie,r5,rfl⟩:=cH h4;split at nq
  .rename_i l hh hl iE;obtain⟨ha,hb,hc,nz⟩:=nq;have e1:=G7 hl hlo hlo0;have e2:=G7 iE hhi hhi0;have hd:=hx.slice_inv;cases hd with
   |nil =>
    have eE:l=0:=W;have hh0:hh=0:=W;subst eE;subst hh0;refine⟨.slice none 0 0,?_,by simpa using .data .nil⟩;exact Qaz
   |empty a =>
    have eE:l=0:=W;have hh0:hh=0:=W;subst eE;subst hh0;refine⟨.slice (some a) 0 0,?_,by simpa using .data (.empty a)⟩;exact Qaz
   |slice S b off cap sz g bS hB xn hD G =>
    have pj:=FD (P:=P) (w:=w) (isS:=true) (len:=S.length) (cap:=cap) e1 e2 ha hb hc xn;have oy:((S.take hh.toNat).drop l.toNat).length=hh.toNat - l.toNat:=au;have wb:∀(i:Nat) (r:List V),((S.take hh.toNat).drop l.toNat)[i]?=some r->S[l.toNat+i]?=some r:=λi r hi=>by grind
    have hres:∀ad:Option Addr,(ad=some ⟨b,off,none⟩/\cap=l.toNat)\/ad=some ⟨b,off+l.toNat * ie.size,none⟩->(0<((S.take hh.toNat).drop l.toNat).length->sz=ie.size) ->
      Rel c (.slice ((S.take hh.toNat).drop l.toNat)) (.slice ad (hh.toNat - l.toNat) (cap - l.toNat)):=by
     intro ad had hsz0;rw[<-oy];have base:∀o,(0<((S.take hh.toNat).drop l.toNat).length->o=off+l.toNat * sz)->Rel c (.slice ((S.take hh.toNat).drop l.toNat)) (.slice (some ⟨b,o,none⟩) ((S.take hh.toNat).drop l.toNat).length (cap - l.toNat)):=by intro o ho;refine .data (.slice _ b o _ sz (λi j=>g (l.toNat+i) j) (λr o6=>bS r (qi2 (qjh o6))) J J (λi j r x o6 um=>?_) λi j r x o6 um=>G _ j r x (wb i r o6) um);have hpos:0<((S.take hh.toNat).drop l.toNat).length:=Nat.lt_of_le_of_lt (il _) (gn.1 o6).1;have:=hD _ j r x (wb i r o6) um;rw[ho hpos];grind
     grind
    have hszr:0<((S.take hh.toNat).drop l.toNat).length->sz=ie.size:=λhpos=>by rw[oy]at hpos;have ni:l.toNat<S.length:=J;rw[<-bS S[l.toNat] Z,nz S[l.toNat] Z]
    refine⟨.slice (if cap=l.toNat then some ⟨b,off,none⟩else some ⟨b,off+l.toNat * ie.size,none⟩) (hh.toNat - l.toNat) (cap - l.toNat),?_,?_⟩
    .simp[Instr.sliceAt,Instr.slice,vo U,pj,eO r5,cM]
    grind
  exact nq.elim
 .rename_i s hk;obtain⟨i',d,hI,O,U,h3,h4,h5,_⟩:=rk hk Z;obtain rfl:=Ea h4;obtain rfl:=hx.val_inv;split at nq
  .rename_i l hh hl iE;obtain⟨ha,hb,hc⟩:=nq;have pj:=FD (P:=P) (w:=w) (isS:=false) (len:=s.size) (cap:=s.size) (G7 hl hlo hlo0) (G7 iE hhi hhi0) ha hb hc (gj _);exact⟨_,by simp[Instr.sliceAt,Instr.slice,vo U,pj],.val _ (by have hso:=rK hx;simp only[iU,jm]at hso|-;rw[ByteArray.size_extract];omega)⟩
  exact nq.elim
 exact nq.elim
def ZW{x:V}(hx:Rel c x u)(hy:Rel c y v)(nq:(C2 x y).side)(ts:Array TypeId)(ty:TypeId):∃r,(Builtin.min_ ts ty #[u,v]).run P w=.ok r w/\Rel c (C2 x y).val r:=by
 unfold C2 at nq|-;split at nq
 .rename_i k a k' b;simp only at nq;subst nq;obtain rfl:=hx.val_inv;obtain rfl:=hy.val_inv;exact⟨_,by simp[Builtin.min_,Builtin.min2],.val _⟩
 exact nq.elim
def Tl{x hI:V}{t:Value}(hx:Rel c x u)(hy:Rel c y v)(hz:Rel c hI t)(nq:(DG x y hI).side)(ts:Array TypeId)(ty:TypeId):∃r,(Builtin.min_ ts ty #[u,v,t]).run P w=.ok r w/\Rel c (DG x y hI).val r:=by
 unfold DG at nq|-;split at nq
 .rename_i k a k' b k2 d;simp only at nq;obtain⟨rfl,rfl⟩:=nq;obtain rfl:=hx.val_inv;obtain rfl:=hy.val_inv;obtain rfl:=hz.val_inv;exact⟨_,by simp[Builtin.min_,Builtin.min2],.val _⟩
 exact nq.elim
def qsj{x:V}(hx:Rel c x u)(hy:Rel c y v)(nq:(EH x y).side)(ts:Array TypeId)(ty:TypeId):∃r,(Builtin.max_ ts ty #[u,v]).run P w=.ok r w/\Rel c (EH x y).val r:=by
 unfold EH at nq|-;split at nq
 .rename_i k a k' b;simp only at nq;subst nq;obtain rfl:=hx.val_inv;obtain rfl:=hy.val_inv;exact⟨_,by simp[Builtin.max_,Builtin.max2],.val _⟩
 exact nq.elim
def TL{h:mz}(hs:HSim c h w){x:V}(hx:Rel c x u)(nq:(DT P src dst x).side):∃r,(convert src dst u).run P w=.ok r w/\Rel c (DT P src dst x).val r:=by
 unfold DT at nq|-;split at nq
 .rename_i k k' n hk;obtain⟨i',d,hI,O,U,h3,h4,h5,_⟩:=rk hk Z;obtain rfl:=PJ h4;obtain⟨i'',d',z',g1,g2,_⟩:=rk (P:=P) (t:=src) rfl nq;obtain rfl:=hx.val_inv;refine⟨.int k (k.wrap n),?_,.val _⟩;simp only[convert,iu,vo U,vo g2,iv];cases d'<;>simp[Conv.intToInt]
 .rename_i s hk;obtain⟨i',d,hI,O,U,h3,h4,h5,_⟩:=rk hk Z;obtain rfl:=Ea h4;obtain⟨i'',d',z',g1,g2,_⟩:=rk (P:=P) (t:=src) rfl nq;obtain rfl:=hx.val_inv;refine⟨.string s,?_,.val _ (rK hx)⟩;simp only[convert,iu,vo U,vo g2,iv]
  simp_all
 .rename_i n hk;obtain⟨i',d,hI,O,U,h3,h4,h5,_⟩:=rk hk Z;obtain rfl:=Ea h4;simp only[Ic]at nq;split at nq
  .rename_i e sz hks;obtain⟨rfl,vd⟩:=nq;obtain⟨_,ds,_,_,g2,_,g4,_⟩:=rk hks Z;obtain⟨rfl,_⟩:=cH g4;obtain⟨_,de,_,_,f2,_,f4,_⟩:=rk vd Z;obtain rfl:=PJ f4;have hd:=hx.slice_inv;cases hd with
   |slice _ b off cap sz g p6 hB hc hD G =>
    have hc0:w.cell? ⟨b,off,none⟩=some (g 0 0):=hs.data _ _ _ (by simpa using hD 0 0 _ _ rfl rfl);have hv:g 0 0=.int .u8 n:=by have L:DRel c.D (.val (.int .u8 n)) (g 0 0):=G 0 0 _ _ rfl rfl;generalize g 0 0=y at L;cases L;rfl
    rw[hv]at hc0;have pj:=run_loadCells_list (P:=P) w ⟨b,off,none⟩ [.int .u8 n] (λj v hj=>by
     cases j with
     |zero=>simp at hj;subst hj;simpa[cM]using hc0
     |succ j=>simp at hj)
    refine⟨.string ⟨#[UInt8.ofNat n.toNat]⟩,?_,.val _ (by simp[iU,ByteArray.size])⟩;simp only[lj]at pj;simp only[convert,iu,vo U,vo g2,vo f2,iv,Conv.bytesToString,lj,pj];simp[ByteArray.push,ByteArray.empty,ByteArray.emptyWithCapacity];rfl
  grind
 exact nq.elim
def Gy{d:TypeDesc}(O:u9 P d≠.iface):∀ms,d≠.interface ms:=λms h=>O (by rw[h];rfl)
def qrz{ok:Bool}{x:V}(hx:Rel c x u)(nq:(Eo P dst ok x).side):∃r,(Instr.typeAssert u src dst ok).run P w=.ok r w/\Rel c (Eo P dst ok x).val r:=by
 have tup:∀(y:V) (v:Value) (b:Bool),Rel c y v->Rel c (.tuple [y,.val (.bool b)]) (.tuple #[v,.bool b]):=λy v b hy=>by
  refine .tuple _ _ rfl λj hI z' O U=>?_
  match j with
  | 0=>simp at O U;subst O;subst U;exact hy
  | 1=>simp at O U;subst O;subst U;exact .val _
  |j+2=>simp at O
 unfold Eo at nq|-;split at nq
 .rename_i t v;obtain⟨v',rfl,hv⟩:∃v',u=.iface t v'/\Rel c v v':=by
   cases hx with
   |data h=>cases h
   |iface _ _ v' h=>exact⟨v',rfl,h⟩
  cases ht:t == dst with
  |true =>
   simp only[ht]at nq|-;obtain⟨i,d,hI,O,U,h3,h4,_⟩:=rk (P:=P) (t:=dst) rfl nq.2;have hd:=Gy (P:=P) (d:=d) W;have he:t=dst:=W;refine⟨.tuple #[v',.bool true],?_,tup _ _ _ hv⟩;exact Qba
  |false =>
   simp only[ht]at nq|-;split at nq
   .rename_i hI hz;simp only[hz];obtain⟨i,d,z',O,U,h3,h4,_⟩:=rk (P:=P) (t:=dst) rfl nq.2;have hd:=Gy (P:=P) (d:=d) W;have he:¬t=dst:=W;obtain⟨zv,iH,hzr⟩:=IY (P:=P) (w:=w) (c:=c) hz;refine⟨.tuple #[zv,.bool false],?_,tup _ _ _ hzr⟩;cases d<;>first|(exact(hd _ rfl).elim)|simp[Instr.typeAssert,vo U,he,iH]
   exact nq.elim
 .rename_i t v;obtain⟨v',rfl,hv⟩:∃v',u=.iface t v'/\Rel c v v':=by
   cases hx with
   |data h=>cases h
   |iface _ _ v' h=>exact⟨v',rfl,h⟩
  obtain⟨he,hk1,vk⟩:=nq;obtain⟨i,d,z',O,U,h3,h4,_⟩:=rk (P:=P) (t:=dst) rfl vk;have hd:=Gy (P:=P) (d:=d) W;refine⟨v',?_,hv⟩;exact Qba
 .obtain rfl:=hx.val_inv;split at nq
  .rename_i hI hz;simp only[hz];obtain⟨i,d,z',O,U,h3,h4,_⟩:=rk (P:=P) (t:=dst) rfl nq.2;have hd:=Gy (P:=P) (d:=d) W;obtain⟨zv,iH,hzr⟩:=IY (P:=P) (w:=w) (c:=c) hz;refine⟨.tuple #[zv,.bool false],?_,tup _ _ _ hzr⟩;cases d<;>first|(exact(hd _ rfl).elim)|simp[Instr.typeAssert,vo U,iH]
  exact nq.elim
 exact nq.elim
def ql2{vs:List V}{n:Nat}(hx:Rel c (.tuple vs) u)(nq:n<vs.length):∃r,(Instr.extract u n).run P w=.ok r w/\Rel c (vs.getD n .top) r:=by
 cases hx with
 |data h=>cases h
 |tuple xs us hl G =>
  have ni:n<us.size:=J;refine⟨us[n],by simp[Instr.extract,ni],G n _ _ W ba⟩
end
end
end Go.Abs

namespace Go.Abs
def sN(c:Ctx)(xs:List V)(vs:Array Value):Prop :=
 vs.size=xs.length/\∀(j:Nat) (x:V) (v:Value),xs[j]?=some x->vs[j]?=some v->Rel c x v/\v.oneCell'=true
def Gc(off:Nat):∀(l:List Value) (s:Nat) (cs:Array Value),((l.zipIdx s).foldl (λ(cs:Array Value) (p:Value×Nat)=>cs.setIfInBounds (off+p.2) p.1) cs).size=cs.size /\
  (off+s+l.length<=cs.size->∀k,((l.zipIdx s).foldl (λ(cs:Array Value) (p:Value×Nat)=>cs.setIfInBounds (off+p.2) p.1) cs)[k]?=if off+s<=k/\k<off+s+l.length then l[k - (off+s)]? else cs[k]?)
 | [],s,cs=>⟨rfl,λ_ k=>by simp;intro O U;omega⟩
 |v::l,s,cs=>by
  obtain⟨O,U⟩:=Gc off l (s+1) (cs.setIfInBounds (off+s) v);refine⟨da,λnh k=>?_⟩;simp only[jp]at nh;have:=U au k;simp only[List.zipIdx_cons,kr];rw[this];by_cases hk:k=off+s
  .grind
  grind
def qkr{c:Ctx}{xs:List V}{cs:Array Value}(hc:sN c xs cs){x:V}{v:Value}(G:Rel c x v)(ho:x.cellsOk=true){off:Nat}(nh:off+x.cells.length<=xs.length) :
  sN c (xs.take off++x.cells++xs.drop (off+x.cells.length)) (v.cells.zipIdx.foldl (λ(cs:Array Value) (p:Value×Nat)=>cs.setIfInBounds (off+p.2) p.1) cs):=by
 obtain⟨p6,s6⟩:=G.cells ho;rw[<-Array.foldl_toList,Array.toList_zipIdx];obtain⟨O,U⟩:=Gc off v.cells.toList 0 cs;have U:=U (by simp;rw[p6,hc.1];exact nh);refine⟨by rw[O,hc.1];simp;omega,λj y u hy Q=>?_⟩;rw[U j]at Q;simp only[jt,Array.length_toList,p6]at Q;split at Q
 .grind
 rename_i hj;by_cases ni:j<off
 .rw[jf,gu au,jo,gh ni]at hy;exact hc.2 j y u hy Q
 rw[gz au,kj]at hy;simp only[it,kc]at hy;rw[show off+x.cells.length+(j - (min off xs.length+x.cells.length))=j from by omega]at hy;exact hc.2 j y u hy Q
def RJ{c:Ctx}{fs:List (Nat×Nat)}{yT:Nat->Option (Nat×Nat)}(hp:∀i,i<fs.length->yT i=fs[i]?):∀(ps:List (Nat×V)) (qs:List (Nat×Value)) (xs ys:List V) (cs:Array Value),
  ps.length=qs.length->(∀(k:Nat) (p:Nat×V) (q:Nat×Value),ps[k]?=some p->qs[k]?=some q->p.1=q.1/\Rel c p.2 q.2)->sN c xs cs->AJ fs ps xs=some ys ->
  ∃aK,Instr.fill yT cs qs=some aK/\sN c ys aK
 | [],[],xs,ys,cs,_,_,hc,h=>by simp only[AJ,js]at h;subst h;exact⟨cs,rfl,hc⟩
 | [],_::_,_,_,_,hl,_,_,_=>by simp at hl
 |_::_,[],_,_,_,hl,_,_,_=>by simp at hl
 |(i,x)::ps,(i',v)::qs,xs,ys,cs,hl,hpq,hc,h=>by
  obtain⟨he,G⟩:=hpq 0 (i,x) (i',v) rfl rfl;simp only at he G;subst he;simp only[AJ]at h;split at h
  .rename_i o n hf;split at h
   .rename_i pD;obtain⟨ho,rfl,nh⟩:=pD;have p6:=(G.cells ho).1;obtain⟨aK,O,U⟩:=RJ hp ps qs _ ys _ W (λk p q hp hq=>hpq (k+1) p q W W) (qkr hc G ho nh) h;refine⟨aK,?_,U⟩;simp only[Instr.fill,hp i (gn.1 hf).1,hf];have qz:(decide (v.cells.size≠x.cells.length)||decide (o+v.cells.size > cs.size))=false:=by
     rw[p6,hc.1];simp;omega
    rw[gg W];exact O
   cases h
  cases h
def qkp(c:Ctx)(v:Value):Rel c (bD v) v:=by exact Ej c v
def GX(c:Ctx){hI:Value}(h:∀v,v∈hI.cells.toList->v.oneCell'=true):sN c (hI.cells.toList.map bD) hI.cells :=
 ⟨Z,λj x v hx hv=>by simp only[ja,iy]at hx;obtain⟨u,Q,rfl⟩:=hx;have:u=v:=W;subst this;exact⟨qkp c u,h u (gw Q)⟩⟩
theorem LR{P:Program}{α β:Type}{f:α->Sem β}{g:α->β}{w:World}:∀(l:List α),(∀x,x∈l->(f x).run P w=.ok (g x) w)->(l.mapM f).run P w=.ok (l.map g) w
 | [],_=>by simp
 |x::l,h=>by simp only[List.mapM_cons,iu,h x Z,iv,LR l (λy hy=>h y c0),je,jd]
def Lv{P:Program}{α β:Type}{f:α->Sem β}{g:α->β}{w:World}(l:Array α)(h:∀x,x∈l.toList->(f x).run P w=.ok (g x) w):(l.mapM f).run P w=.ok (l.map g) w:=by rw[Array.mapM_eq_mapM_toList];simp only[Sem.run_map,LR l.toList h,iv];congr 1;apply mc;simp
section
variable {P:Program} {c:Ctx} {h:mz} {w:World}
def Zz{t:TypeId}{ps:List (Nat×V)}{qs:Array (Nat×Value)}{ys:List V}(hl:ps.length=qs.size)
  (hpq:∀(k:Nat) (p:Nat×V) (q:Nat×Value),ps[k]?=some p->qs[k]?=some q->p.1=q.1/\Rel c p.2 q.2) (hag:(nj P t).agg=true) (hf:AJ (sY P t) ps (o8 P t)=some ys) :
  ∃r,(Instr.build t qs).run P w=.ok r w/\Rel c (.agg ys) r:=by
 have nv:nj P t≠.other:=λe=>by simp[e,TK.agg]at hag
 obtain⟨i,d,hI,O,U,h3,h4,h5,h6,h7,h8⟩:=rk (P:=P) (t:=t) rfl nv;rw[h6]at hf;have hz:=GX c h8;have iH:(zeroValue t).run P w=.ok hI w:=qfy;have fin:∀(yT:Nat->Option (Nat×Nat)),(∀i,i<(sY P t).length->yT i=(sY P t)[i]?)->∃aK,Instr.fill yT hI.cells qs.toList=some aK/\sN c ys aK:=λyT hp =>
  RJ hp ps qs.toList _ ys hI.cells J (λk p q hp hq=>hpq k p q hp W) hz hf
 have done:∀aK,sN c ys aK->Rel c (.agg ys) (.agg aK):=λaK su=>.agg ys aK su.1 (λj v hv=>by
   have ni:j<ys.length:=by rw[<-su.1];exact(qjg.1 hv).1
   exact(su.2 j ys[j] v ba hv).2) λj x v hx hv=>(su.2 j x v hx hv).1
 cases hk:nj P t with
 |struct fs =>
  rw[hk]at h4;obtain⟨l,rfl,nz,rfl⟩:=MM h4;have y3:sY P t=l.toList.map λf=>(f.offset,P.cellsOf f.type):=by simp[sY,hk]
  obtain⟨aK,BK,su⟩:=fin (λi=>(l.map λf=>(f.offset,P.cellsOf f.type))[i]?) (λi _=>by rw[y3];simp);refine⟨.agg aK,?_,done aK su⟩;have hm:(l.mapM λf=>(do pure (f.offset,<-sizeOf f.type):Sem (Nat×Nat))).run P w=.ok (l.map λf=>(f.offset,P.cellsOf f.type)) w:=Lv l λf lD=>by obtain⟨i',qj⟩:=nz f lD;simp[eO qj,Program.cellsOf,qj]
  simp only[Instr.build,iu,iH,vo U,iv,hm,BK,je]
 |array n e sz =>
  rw[hk]at h4;obtain⟨rfl,ie,r5,rfl⟩:=CU h4;have y3:sY P t=(List.range n).map λi=>(i * ie.size,ie.size):=by simp[sY,hk]
  obtain⟨aK,BK,su⟩:=fin (λi=>some (i * ie.size,ie.size)) (λi hi=>by rw[y3]at hi|-;simp at hi;simp[hi]);refine⟨.agg aK,?_,done aK su⟩;simp only[Instr.build,iu,iH,vo U,iv,eO r5,BK,je]
 |_=>simp[hk,TK.agg]at hag
def U0{f:Fn}{first pk:List V}{us vs:Array Value}(O:us.size=first.length)(U:vs.size=pk.length)
  (s7:∀(j:Nat) (x:V) (v:Value),first[j]?=some x->us[j]?=some v->Rel c x v) (cY:∀(j:Nat) (x:V) (v:Value),pk[j]?=some x->vs[j]?=some v->Rel c x v):Rel c (.fn f first pk) (.func f us vs) :=
 .fn f first pk us vs O U s7 cY
def Ky{g:Operand->V}{ev:Operand->Value}{l:Array Operand}(hg:∀x,x∈l.toList->Rel c (g x) (ev x)) :
  (l.map ev).size=(l.toList.map g).length/\∀(j:Nat) (x:V) (v:Value),(l.toList.map g)[j]?=some x->(l.map ev)[j]?=some v->Rel c x v :=
 ⟨Z,λj x v hx hv=>by simp only[ja,iy]at hx;obtain⟨o,ho,rfl⟩:=hx;simp only[mg,iy]at hv;obtain⟨o',qi,rfl⟩:=hv;have:o=o':=W;subst this;exact hg o (gw ho)⟩
end
end Go.Abs

namespace Go.Abs
def Ib{c:Ctx}{g:Operand->V}{ev:Operand->Value}{x:Option Operand}(hg:∀y,x=some y->Rel c (g y) (ev y)) :
  (∀a,x.map g=some a->∃v,x.map ev=some v/\Rel c a v)/\(x.map g=none->x.map ev=none):=by
 cases x with
 |none=>simp
 |some y=>simp;exact hg y rfl
def Gx{P:Program}{c:Ctx}{h:mz}{w:World}{o:Oper}{g:Operand->V}{ev:Operand->Value}(hs:HSim c h w)
  (hg:∀x,x∈o.op.operands.toList->Rel c (g x) (ev x)) (nq:(wx P g h o.op).side) :
  ∃v,(execOp ev o).run P w=.ok (.value v) w/\Rel c (wx P g h o.op).val v:=by
 obtain⟨dst,op,type,nk,after,guard⟩:=o;simp only at hg nq|-;cases op with
 |move x=>exact⟨_,rfl,hg x ay⟩
 |assign x=>exact⟨_,rfl,hg x ay⟩
 |build t parts =>
  simp only[wx]at nq|-;split at nq
  .rename_i ys hf;obtain⟨r,G,pq⟩:=Zz (P:=P) (c:=c) (w:=w) (t:=t) (ps:=parts.toList.map λp=>(p.1,g p.2)) (qs:=parts.map λp=>(p.1,ev p.2)) (ys:=ys) Z (λk p q hp hq=>by
    simp only[ja,iy]at hp;obtain⟨a,ha,rfl⟩:=hp;simp only[mg,iy]at hq;obtain⟨b,hb,rfl⟩:=hq;have:a=b:=W;subst this;exact⟨rfl,hg a.2 (by simp only[Op.operands,List.toList_toArray,ig];exact⟨a,gw ha,rfl⟩)⟩) nq hf
   exact Qbb
  exact nq.elim
 |load t a =>
  obtain⟨v,hv,G⟩:=Mi (P:=P) (t:=t) hs (hg a ay) nq;exact⟨v,by simp[execOp,hv],G⟩
 |nilCheck x =>
  have G:=hg x ay;simp only[wx]at nq|-;split at nq
  .rename_i i o hx;rw[hx]at G;obtain⟨b,hb,O⟩:=As G;exact⟨_,by simp[execOp,hb],.ptr i o b O⟩
  .rename_i cells hx;rw[hx]at G;obtain⟨b,o,hb,O⟩:=HV G;exact⟨_,by simp[execOp,hb],G3 O⟩
  .rename_i i n sz r q hx;rw[hx]at G;obtain⟨b,o,len,cap,hb,O⟩:=BJ G;exact⟨_,by simp[execOp,hb],.optr _ _ _ _ _ b o len cap O⟩
  .rename_i f a cs hx;rw[hx]at G;generalize nZ:ev x=u at G;cases G with
   |data h=>cases h
   |fn f ys xs us vs w6 hl Y h=>exact⟨.func (.func f) us vs,by simp[execOp,nZ],.fn _ _ _ us vs w6 hl Y h⟩
  exact nq.elim
 |binOp op T x y T' =>
  obtain⟨r,G,pq⟩:=Vf (P:=P) (w:=w) (xo:=x) (yo:=y) (hg x ay) (hg y ay) nq;refine⟨r,?_,pq⟩;simp only[execOp,iu]
  simp_all
 |unOp op T x =>
  have G:=hg x ay;cases op with
  |not =>
   simp only[wx]at nq|-;split at nq
   .rename_i b hx;rw[hx]at G;exact⟨_,by simp[execOp,G.val_inv,Op.unary],.val _⟩
   exact nq.elim
  |neg =>
   simp only[wx]at nq|-;split at nq
   .rename_i k n hx;rw[hx]at G;exact⟨_,by simp[execOp,G.val_inv,Op.unary,Op.intArith],.val _⟩
   exact nq.elim
  |_=>exact nq.elim
 |convert src dst x =>
  obtain⟨r,G,pq⟩:=TL (P:=P) (w:=w) hs (hg x ay) nq;exact Qbb
 |makeInterface T x =>
  obtain⟨O,U⟩:=nq;obtain⟨i,d,hI,g1,g2,g3,g4,_⟩:=rk (P:=P) (t:=T) rfl U;refine⟨.iface T (ev x),?_,.iface T _ _ (hg x ay)⟩;simp only[execOp,Instr.makeInterface,iu,vo g2,iv];cases d<;>simp;rename_i ms;exact O (by rw[<-g4];rfl)
 |makeFunc f first pk =>
  have O:=Ky (c:=c) (g:=g) (ev:=ev) (l:=first) (λx hx=>hg x (by simp[Op.operands]at hx|-;exact .inl hx));have U:=Ky (c:=c) (g:=g) (ev:=ev) (l:=pk) (λx hx=>hg x (by simp[Op.operands]at hx|-;exact .inr hx));exact⟨_,by simp[execOp,Instr.makeFunc],U0 O.1 U.1 O.2 U.2⟩
 |fieldAddr s x f =>
  have G:=hg x ay;simp only[wx]at nq|-;split at nq
  .rename_i o n i off hf hx;rw[hx]at G;obtain⟨b,hb,O⟩:=As G;exact⟨_,qgw,.ptr _ _ b O⟩
  .rename_i o n cells hf hx;rw[hx]at G;obtain⟨b,off,hb,O⟩:=HV G;refine⟨.pointer (some ⟨b,off+o,none⟩),qgw,G3 λj x hx=>?_⟩;rw[kj]at hx;grind
  .rename_i o n i m sz r q hf hx;rw[hx]at G;obtain⟨b,o',len,cap,hb,O⟩:=BJ G;refine⟨.pointer (some ⟨b,o'+(r * sz+q)+o,none⟩),qgw,?_⟩;have:=Rel.optr (c:=c) i m sz r (q+o) b o' len cap O;grind
  exact nq.elim
 |field s x f =>
  have G:=hg x ay;simp only[wx]at nq|-;split at nq
  .rename_i o t cs hf hx;obtain⟨qn,ho,hag⟩:=nq;rw[hx]at G;unfold So at hf;split at hf
   .rename_i fs Q;obtain⟨fd,hfd,he⟩:=iy.1 hf;cases he;obtain⟨i2,d2,z2,g1,g2,g3,g4,g5,_⟩:=rk rfl ho;have ha:=I6 g2 W w;rw[g4,hag]at ha;obtain⟨v,hv⟩:=Qaj (ev x)
    rw[hv]at G;cases G with
    |data hd=>cases hd
    |agg _ vs hl tc o6 =>
     have hlv:fd.offset<vs.size:=J;refine⟨vs[fd.offset],?_,o6 fd.offset _ _ W (by simp[hlv])⟩;simp[execOp,hv,Instr.field,vo Q,hfd,part,ha,hlv,asAgg]
   cases hf
  exact nq.elim
 |indexAddr T x i =>
  obtain⟨r,G,pq⟩:=Xg (P:=P) (w:=w) hs (rQ hs (hg x ay)) (hg i ay) nq;exact Qbb
 |index T x i =>
  obtain⟨r,G,pq⟩:=XT (P:=P) (w:=w) (hg x ay) (hg i ay) nq;exact Qbb
 |lookup T x i ok =>
  obtain⟨r,G,pq⟩:=ql7 (P:=P) (w:=w) hs (hg x ay) (hg i ay) nq;exact Qbb
 |typeAssert x src dst ok =>
  obtain⟨r,G,pq⟩:=qrz (P:=P) (w:=w) (src:=src) (hg x ay) nq;exact Qbb
 |extract x n =>
  have G:=hg x ay;simp only[wx]at nq|-;split at nq
  .rename_i vs hx;rw[hx]at G;obtain⟨r,O,U⟩:=ql2 (P:=P) (w:=w) G nq;exact⟨r,by simp[execOp,O],U⟩
  exact nq.elim
 |slice T x lo hi mx =>
  have l1:=Ib (c:=c) (g:=g) (ev:=ev) (x:=lo) (λy hy=>hg y qhz);have l2:=Ib (c:=c) (g:=g) (ev:=ev) (x:=hi) (λy hy=>hg y qhz);have l3:=Ib (c:=c) (g:=g) (ev:=ev) (x:=mx) (λy hy=>hg y qhz);obtain⟨r,G,pq⟩:=V7 (P:=P) (w:=w) (rQ hs (hg x ay)) l1.1 l1.2 l2.1 l2.2 l3.1 l3.2 nq;exact Qbb
 |call cl =>
  obtain⟨callee,args,argTypes⟩:=cl;cases callee with
  |value f=>exact nq.elim
  |invoke r m=>exact nq.elim
  |builtin b =>
   cases b with
   |len =>
    simp only[wx]at nq|-;split at nq
    .rename_i x T hx hT;obtain rfl:args = #[x]:=mc hx;obtain rfl:argTypes = #[T]:=mc hT;obtain⟨r,G,pq⟩:=WU (P:=P) (w:=w) hs (rQ hs (hg x bw)) nq type;exact⟨r,qfw,pq⟩
    exact nq.elim
   |min =>
    simp only[wx]at nq|-;split at nq
    .rename_i x y hx;obtain rfl:args = #[x,y]:=mc hx;obtain⟨r,G,pq⟩:=ZW (P:=P) (w:=w) (hg x bw) (hg y bw) nq argTypes type;exact⟨r,qfw,pq⟩
    .rename_i x y hI hx;obtain rfl:args = #[x,y,hI]:=mc hx;obtain⟨r,G,pq⟩:=Tl (P:=P) (w:=w) (hg x bw) (hg y bw) (hg hI bw) nq argTypes type;exact⟨r,qfw,pq⟩
    exact nq.elim
   |max =>
    simp only[wx]at nq|-;split at nq
    .rename_i x y hx;obtain rfl:args = #[x,y]:=mc hx;obtain⟨r,G,pq⟩:=qsj (P:=P) (w:=w) (hg x bw) (hg y bw) nq argTypes type;exact⟨r,qfw,pq⟩
    exact nq.elim
   |_=>exact nq.elim
 |_=>exact nq.elim
end Go.Abs



namespace Go.Abs
def V.strip:V->V
 | .opt _ v=>v
 |v=>v
def V.has(hr:Bool):V->Prop
 | .opt g _=>hr=true->g=true
 |_=>True
def Env.getS(e:Env)(x:Operand):V:=(e.get x).strip
def sn(e:Env)(hr:Bool):List Operand->Prop
 | []=>True
 |x::l=>(e.get x).has hr/\sn e hr l
def Gw{e:Env}{hr:Bool}:∀{l:List Operand},sn e hr l->∀x,x∈l->(e.get x).has hr
 | [],_,x,hx=>by cases hx
 |y::l,h,x,hx=>by
  cases hx with
  |head=>exact h.1
  |tail _ hx=>exact Gw h.2 x hx
def Cl{c:Ctx}{x:V}{v:Value}(h:Rel c x v)(hh:x.has true):Rel c x.strip v:=by
 cases x with
 |opt g y =>
  cases h with
  |data h=>cases h
  |opt g x v h hn=>exact h (hh rfl)
 |_=>exact h
def gB(ds:List (Option Tmp))(e:Env):Option (Nat×Bool)->Option Bool
 |none=>some true
 |some (j,zh) =>
  match ds[j]? with
  |some (some t)=>match oz e.t t with
   | .val (.bool b)=>some (b == zh)
   | .opt g (.val (.bool b))=>some (g&&(b == zh))
   | .opt false _=>some false
   |_=>none
  |_=>none
def iJ(N:Nat):Option Tmp->Prop
 |none=>True
 |some d=>d<N
def wo(g:Option (Nat×Bool))(hr:Bool)(v:V):V :=
 match g with
 |none=>v
 |some _=>.opt hr v
def kQ(x y hI:V):V :=
 match x.strip with
 | .val (.bool b)=>match y.strip,hI.strip with
  | .val (.bool p),.val (.bool q)=>.val (.bool (bif b then p else q))
  |y',z'=>bif b then y' else z'
 |_=>.top
def CQ(hr:Bool)(x y hI:V):Prop :=
 hr=true->match x.strip with
  | .val (.bool b)=>x.has true/\(b=true->y.has true)/\(b=false->hI.has true)
  |_=>False
def V.isIface:V->Bool
 | .iface _ _=>true
 |_=>false
def V.isInt:V->Bool
 | .val (.int _ _)=>true
 |_=>false
def V.isData:V->Bool
 | .val v=>v.oneCell'
 | .slice _=>true
 |_=>false
def sL(h:mz)(sz:Nat):Nat->List (Nat×V)->Option (List (List V))
 |_,[]=>some []
 |k,(i,x)::l =>
  if i=k/\x.cellsOk=true/\x.cells.length=sz/\(qu h x.cells).all V.isData=true then(sL h sz (k+1) l).map ((qu h x.cells)::·)else none
def Co(sz:Nat):Nat->List (Nat×V)->Option (List V)
 | 1,[(0,x)]=>if x.cellsOk=true/\x.cells.length=sz then some x.cells else none
 |_,_=>none
def Cz(h:mz):V->Option (List (List V))
 | .slice S=>some S
 | .nils=>some []
 | .own i n=>match h[i]? with
  |some (.arr _ _ S)=>if S.length=n then some S else none
  |_=>none
 |_=>none
def pn(P:Program)(t:TypeId):Nat:=match ti P t with|some x=>x.bytes|none=>0
def wI(P:Program)(T:TypeId)(s x:V)(h:mz)(K:V->mz->Prop):Prop :=
 match nj P T,Cz h x with
 | .slice e sz,some oq =>
  RowsLen sz oq/\0<sz/\pn P e<=2048/\oh P e=sz/\nj P e≠.other /\
  match s with
  | .nils=>oq.length<=68719476736/\K (.own h.length oq.length) (h++[.arr e sz oq])
  | .cap S=>RowsLen sz S/\0<oq.length/\S.length+oq.length<=68719476736/\K (.slice (S++oq)) h
  | .own i n=>match h[i]? with
   |some (.arr e' rr S)=>e'=e/\rr=sz/\S.length=n/\S.length+oq.length<=68719476736/\K (.own i (n+oq.length)) (h.set i (.arr e sz (S++oq)))
   |some (.uarr e' rr S)=>e'=e/\rr=sz/\S.length=n/\S.length+oq.length<=68719476736/\K (.own i (n+oq.length)) (h.set i (.uarr e sz (S++oq)))
   |_=>False
  |_=>False
 |_,_=>False
def Ae(P:Program)(T:TypeId)(s x:V)(h:mz)(K:V->mz->Prop):Prop :=
 match x with
 | .lit cells =>
  match nj P T,s with
  | .slice e sz,.own i n=>match h[i]? with
   |some (.oarr e' rr S)=>cells.length=sz/\0<sz/\pn P e<=2048/\oh P e=sz/\nj P e≠.other/\e'=e/\rr=sz/\S.length=n/\S.length+1<=68719476736/\K (.own i (n+1)) (h.set i (.oarr e sz (S++[cells])))
   |_=>False
  |_,_=>False
 |x=>wI P T s x h K
def xw(P:Program)(e:Env):Op->(V->mz->Prop)->(V->mz->Prop)->Prop
 | .box _ x,K,_=>sn e true [x]/\(e.getS x).cellsOk=true/\K (.ptr e.h.length 0) (e.h++[.cells (e.getS x).cells])
 | .alloc T,K,_=>nj P T≠.other/\K (.ptr e.h.length 0) (e.h++[.cells (o8 P T)])
 | .store T a x,K,_ =>
  sn e true [a,x] /\
  match e.getS a with
  | .ptr i off=>match e.h[i]? with
   |some (.cells xs)=>(e.getS x).cellsOk=true/\(e.getS x).cells.length=oh P T/\nj P T≠.other/\off+(e.getS x).cells.length<=xs.length /\
     K .top (e.h.set i (.cells (xs.take off++(e.getS x).cells++xs.drop (off+(e.getS x).cells.length))))
   |_=>False
  | .optr i n sz r q=>match e.h[i]? with
   |some (.uarr t rr S)=>S.length=n/\rr=sz/\r<S.length/\(e.getS x).cellsOk=true/\(qu e.h (e.getS x).cells).all V.isData=true/\(e.getS x).cells.length=oh P T/\nj P T≠.other/\q+(e.getS x).cells.length<=sz /\
     K .top (e.h.set i (.uarr t sz (S.set r ((S.getD r []).take q++qu e.h (e.getS x).cells++(S.getD r []).drop (q+(e.getS x).cells.length)))))
   |some (.oarr t rr S)=>S.length=n/\rr=sz/\r<S.length/\(e.getS x).cellsOk=true/\(e.getS x).cells.length=oh P T/\nj P T≠.other/\q+(e.getS x).cells.length<=sz /\
     K .top (e.h.set i (.oarr t sz (S.set r ((S.getD r []).take q++(e.getS x).cells++(S.getD r []).drop (q+(e.getS x).cells.length)))))
   |_=>False
  |_=>False
 | .buildSlice T n parts,K,_ =>
  match nj P T with
  | .slice el sz=>match sL e.h sz 0 (parts.toList.map λp=>(p.1,e.getS p.2))with
   |some S=>sn e true (parts.toList.map (·.2))/\S.length=n/\0<sz/\n * sz<=16777216/\nj P el≠.other/\oh P el=sz/\K (.slice S) e.h
   |none=>match Co sz n (parts.toList.map λp=>(p.1,e.getS p.2))with
    |some cs=>sn e true (parts.toList.map (·.2))/\0<sz/\sz<=16777216/\nj P el≠.other/\oh P el=sz/\K (.lit cs) e.h
    |none=>False
  |_=>False
 | .call { callee:=.value f,args,.. },K,Kp =>
  sn e true (f::args.toList) /\
  match e.getS f with
  | .fn (.func py) first pk=>ACalls P py (qu e.h (first++args.toList.map e.getS++pk)) e.h λr Y=>match r with
   | .ret v=>K v Y
   | .panic v=>Kp v Y
  |_=>False
 | .call { callee:=.builtin .append,args,argTypes },K,_ =>
  match args.toList,argTypes.toList with
  | [s,x],[T,T']=>sn e true [s,x]/\T'=T/\Ae P T (e.getS s) (e.getS x) e.h K
  |_,_=>False
 | .range T x,K,_ =>
  sn e true [x] /\
  match nj P T,e.getS x with
  | .string,.val (.string s)=>K (.ptr e.h.length 0) (e.h++[.iter s 0])
  |_,_=>False
 | .next x true,K,_ =>
  sn e true [x] /\
  match e.getS x with
  | .ptr i 0=>match e.h[i]? with
   |some (.iter s p) =>
    if p<s.size then K (.tuple [.val (.bool true),.val (.int .i64 p),.val (.int .i32 (Utf8.decode s p).1)]) (e.h.set i (.iter s (p+(Utf8.decode s p).2)))
    else K (.tuple [.val (.bool false)]) e.h
   |_=>False
  |_=>False
 | .panic x,_,Kp=>sn e true [x]/\(e.getS x).isIface=true/\Kp (e.getS x) e.h
 | .makeMap T r,K,_ =>
  match nj P T with
  | .map _ _=>(match r with|none=>True|some x=>sn e true [x]/\(e.getS x).isInt=true)/\K (.mapr e.h.length) (e.h++[.map []])
  |_=>False
 | .mapUpdate T m key x,K,_ =>
  sn e true [m,key,x] /\
  match nj P T,e.getS m,e.getS key with
  | .map kt _,.mapr i,.val (.string s)=>match e.h[i]? with
   |some (.map es)=>match yY es with
    |some l=>nj P kt=.string/\K .top (e.h.set i (.map (yf (wT l s (e.getS x)))))
    |none=>False
   |_=>False
  |_,_,_=>False
 | .call { callee:=.builtin .delete,args,argTypes },K,_ =>
  match args.toList,argTypes.toList with
  | [m,key],[T,_]=>sn e true [m,key] /\
   match nj P T,e.getS m,e.getS key with
   | .map kt _,.mapr i,.val (.string s)=>match e.h[i]? with
    |some (.map es)=>match yY es with
     |some l=>nj P kt=.string/\K (.tuple []) (e.h.set i (.map (yf (Au l s))))
     |none=>False
    |_=>False
   |_,_,_=>False
  |_,_=>False
 |_,_,_=>False
def cO:Op->Bool
 | .box .. | .alloc _| .panic _| .range .. | .next _ true| .store .. | .buildSlice .. | .makeMap .. | .mapUpdate .. | .call { callee:=.value _,.. } | .call { callee:=.builtin .append,.. } | .call { callee:=.builtin .delete,.. }=>true
 |_=>false
@[reducible] def RA(P:Program)(py:FuncId)(hr:Bool)(qf:Prop)(args:List V)(h:mz)(K:V->Prop)(KE:AEnd->mz->Prop):Prop :=
 (∃r,(hr=true->qf/\APure P py args r)/\K r)\/(hr=true/\qf/\ACalls P py args h KE)
def zx(P:Program)(N:Nat)(hu:AExit->Env->Prop)(ds:List (Option Tmp))(o:Oper)(e:Env)(K:Env->Prop):Prop :=
 match gB ds e o.guard with
 |none=>False
 |some hr =>
  iJ N o.dst /\
  match o.op with
  | .pick x y hI=>CQ hr (e.get x) (e.get y) (e.get hI)/\K (e.put o.dst (wo o.guard hr (kQ (e.get x) (e.get y) (e.get hI))))
  |op =>
   match cO op,o.guard with
   |false,g=>(hr=true->sn e true op.operands.toList/\(wx P e.getS e.h op).side)/\K (e.put o.dst (wo g hr (wx P e.getS e.h op).val))
   |true,none=>xw P e op (λv Y=>K (({ e with h:=Y }:Env).put o.dst v)) (λv Y=>hu (.panic v) { e with h:=Y })
   |true,some _=>match op with
    | .call { callee:=.value f,args,.. }=>match e.getS f with
     | .fn (.func py) first pk=>RA P py hr (sn e true (f::args.toList)) (qu e.h (first++args.toList.map e.getS++pk)) e.h (λr=>K (e.put o.dst (.opt hr r))) λr Y=>match r with
        | .ret v=>K (({ e with h:=Y }:Env).put o.dst (.opt true v))
        | .panic v=>hu (.panic v) { e with h:=Y }
     |_=>False
    |_=>False
def pB(P:Program)(N:Nat)(hu:AExit->Env->Prop):List (Option Tmp)->List Oper->Env->Prop
 |_,[],e=>hu .normal e
 |ds,o::l,e=>zx P N hu ds o e (pB P N hu (ds++[o.dst]) l)
section
variable {P:Program} {E:Ent}
section
variable{om:Array Oper}{rest:List Oper}{N:Nat}{e:Env}{w:World}{o:Oper}{hr:Bool}{hu:Exit->Act->World->Prop}{v:Value}{K:Act->World->Prop}
def CL{done:List Oper}(dD:om.toList=done++rest){c:Ctx}{a:Act}(s:Sim N c e a w)
  (h:gB (done.map (·.dst)) e o.guard=some hr):Region.wanted o (yielded om a.tmps)=hr:=by
 unfold gB at h;unfold Region.wanted;split at h
 .grind
 rename_i j zh hg;simp only[hg];split at h
 .rename_i t ht;have hj:(om[j]?).bind (·.dst)=some t:=by
   simp only[ja,iy]at ht;obtain⟨o',qi,hd⟩:=ht;have:om[j]?=some o':=by have O:om.toList[j]?=some o':=W;grind
   grind
  have G:=s.tmps t;have hy:∀b,a.tmps.getD t undef=.bool b->yielded om a.tmps j=some b:=λb hb=>by
   unfold yielded;rw[hj];simp only[lw];simp only[jq]at hb;cases mH:a.tmps[t]? with
   |none=>rw[mH]at hb;simp[undef]at hb
   |some v=>rw[mH]at hb;simp at hb;subst hb;rfl
  split at h
  .rename_i b hb;rw[hb]at G;rw[hy b G.val_inv]
   simp_all
  .rename_i g b hb;rw[hb]at G;simp only[js]at h;cases g with
   |true =>
    have o6:Rel c (.val (.bool b)) (a.tmps.getD t undef):=by
     cases G with
     |data h=>cases h
     |opt g x v h hn=>exact h rfl
    rw[hy b o6.val_inv,<-h];grind
   |false =>
    have Q:a.tmps.getD t undef=undef:=by
     cases G with
     |data h=>cases h
     |opt g x v h hn=>exact hn rfl
    have:yielded om a.tmps j=none:=by
     unfold yielded;rw[hj];simp only[lw];simp only[jq]at Q;cases mH:a.tmps[t]? with
     |none=>rfl
     |some v=>rw[mH]at Q;simp at Q;subst Q;rfl
    grind
  .rename_i x hnb hb;rw[hb]at G;simp only[js]at h;have Q:a.tmps.getD t undef=undef:=by
    cases G with
    |data h=>cases h
    |opt g x v h hn=>exact hn rfl
   have:yielded om a.tmps j=none:=by
    unfold yielded;rw[hj];simp only[lw];simp only[jq]at Q;cases mH:a.tmps[t]? with
    |none=>rfl
    |some v=>rw[mH]at Q;simp at Q;subst Q;rfl
   grind
  cases h
 cases h
def nX{a:Act}(hw:Region.wanted o (yielded om a.tmps)=hr)
  (O:hr=true->o.wp P a w (wpList P om hu rest) hu) (U:hr=false->wpList P om hu rest (a.put o.dst undef) w):wpList P om hu (o::rest) a w:=by
 unfold wpList;grind
def cL{a:Act}{w':World}(G:(execOp a.eval o).run P w=.ok (.value v) w')(h:K (a.put o.dst v) w'):o.wp P a w K hu:=by unfold Oper.wp;rw[G];exact h
def D8{a:Act}{w':World}(G:(execOp a.eval o).run P w=.ok .skip w')(h:K (a.put o.dst undef) w'):o.wp P a w K hu:=by unfold Oper.wp;rw[G];exact h
def Cx{d:Option Tmp}(h:iJ N d):∀i,d=some i->i<N:=λi hi=>by subst hi;exact h
def yh{c:Ctx}{a:Act}(s:Sim N c e a w){l:List Operand}(h:sn e true l):∀x,x∈l->Rel c (e.getS x) (a.eval x) :=
 λx hx=>Cl (s.eval x) (Gw h x hx)
def Ri{c:Ctx}{x y hI:V}{u v':Value}(hx:Rel c x u)(hy:Rel c y v)(hz:Rel c hI v')(h:CQ true x y hI):∃b,u=.bool b/\Rel c (kQ x y hI) (if b then v else v'):=by
 have h:=h rfl;unfold kQ;have sx:=λhh=>Cl hx hh;have sy:=λhh=>Cl hy hh;have sz:=λhh=>Cl hz hh;generalize x.strip=x' at *;generalize y.strip=y' at *;generalize hI.strip=z' at *;split at h
 .rename_i b;obtain⟨O,U,h3⟩:=h;refine⟨b,(sx O).val_inv,?_⟩;grind
 grind
end
end
end Go.Abs

namespace Go.Abs
def F4{P:Program}{w:World}(t ty e:TypeId)(i:TypeInfo)(hI:Value)(ht:P.underlying t=some (.slice e))(hi:P.info? e=some i)(hz:i.zero=some hI)
  (zf:hI.cells.size=i.size) (p6:0<i.size) (v:Value) (n:Nat) (xs:List Value) (tp:w.ownsRow 0 e i.size v n xs)
  (a:Addr) (m c:Nat) (oq:List Value) (hl:oq.length=m * i.size) (vY:∀j u,oq[j]?=some u->w.cell? (a.add j)=some u) (O:∀u∈oq,u.oneCell'=true) (hm:0<m)
  (h63:n+m<=maxLen) (hbytes:(n+m) * i.bytes<=140737488355328) :
  ∃v' w',(Builtin.append_ #[t,t] ty #[v,.slice (some a) m c]).run P w=.ok v' w'/\v'.oneCell'=true/\w'.ownsRow 0 e i.size v' (n+m) (xs++oq)/\w'.os=w.os/\w'.tape=w.tape/\w'.output=w.output/\w.heap.size<=w'.heap.size /\
   ((∃g,v.ownBlock=some g/\v'.ownBlock=some g/\∀k,k≠g->w'.heap[k]?=w.heap[k]?)\/(v'.ownBlock=some w.heap.size/\∀k,k<w.heap.size->w'.heap[k]?=w.heap[k]?)):=by
 have hsmall:n+m<=9223372036854775807:=by simp only[maxLen]at h63;omega
 have oy:(xs++oq).length=(n+m) * i.size:=by rw[it,tp.1,hl,kz]
 have grown:∀(old:Nat),old<n+m ->
   (w.drew.alloc (.cells (xs.toArray++oq.toArray++Builtin.zeroCells hI.cells (grownCap w (n+m) old e - (n+m))) e)).ownsRow 0 e i.size
    (.slice (some ⟨w.heap.size,0,none⟩) (n+m) (grownCap w (n+m) old e)) (n+m) (xs++oq):=by
  intro old ho;have u0:=grownCap_ge w (n+m) old e;have r9:grownCap w (n+m) old e<=maxLen:=grownCap_le_maxLen w (n+m) old e h63;refine⟨oy,.inr ⟨w.heap.size,_,_,rfl,il _,li w.drew _,u0,r9,?_,?_⟩⟩
  .simp only[Array.size_append,qi3,size_zeroCells,zf,tp.1,hl,<-kz];congr 1;omega
  grind
 rcases tp.2 with⟨rfl,rfl⟩|⟨g,cap,nu,rfl,hbg,hg,uh,r9,su,eS⟩
 .have hx:xs=[]:=ko W;subst hx;have G:=run_append_nil (P:=P) w t ty e i hI ht hi hz a m c oq hl vY J J W;have hgr:=grown 0 J;simp only[im,ke,qjq]at hgr|-;exact⟨_,_,G,rfl,hgr,rfl,rfl,rfl,sV w.drew _,.inr ⟨rfl,λk hk=>jO w.drew _ k hk⟩⟩
 by_cases eG:n+m<=cap
 .have Ay:n * i.size+oq.length<=nu.size:=by rw[hl,su,<-kz];exact jl _ eG
  have G:=run_append_room (P:=P) w t ty e i ht hi g n cap nu hg a m c oq hl vY O eG Ay;refine⟨_,_,G,rfl,⟨oy,.inr ⟨g,cap,_,rfl,hbg,qi1 w g nu _ e _ hg,eG,r9,?_,?_⟩⟩,rfl,rfl,rfl,by simp[World.setRow],.inl ⟨g,rfl,rfl,λk hk=>qje w g k _ hk⟩⟩
  .grind
  grind
 have holds:∀j u,xs[j]?=some u->w.cell? ((⟨g,0,none⟩:Addr).add j)=some u:=tp.cells (g:=g) rfl;have G:=run_append_grow (P:=P) w t ty e i hI ht hi hz ⟨g,0,none⟩ n cap xs tp.1 holds a m c oq hl vY J J (growslice_fits J hbytes);exact⟨_,_,G,rfl,grown cap J,rfl,rfl,rfl,sV w.drew _,.inr ⟨rfl,λk hk=>jO w.drew _ k hk⟩⟩
def RS{P:Program}{w:World}(t ty e:TypeId)(i:TypeInfo)(ht:P.underlying t=some (.slice e))(hi:P.info? e=some i)(v:Value)(n:Nat)(xs:List Value)(tp:w.ownsRow 0 e i.size v n xs)
  (ad:Option Addr) (c:Nat):(Builtin.append_ #[t,t] ty #[v,.slice ad 0 c]).run P w=.ok v w:=by
 have hfc:(Builtin.firstCells i.size 0 (.slice ad 0 c)).run P w=.ok #[] w:=by cases ad<;>simp[Builtin.firstCells,loadCells,loadCellsFrom]
 rcases tp.2 with⟨rfl,rfl⟩|⟨g,cap,nu,rfl,hbg,hg,uh,r9,su,eS⟩
 .simp[Builtin.append_,kx ht,sizeOf,typeInfo,hi,Builtin.lenOf,hfc]
 simp[Builtin.append_,kx ht,sizeOf,typeInfo,hi,Builtin.lenOf,hfc,uh,storeCells]
def Ctx.addSl(c:Ctx)(i n:Nat)(v:Value):Ctx:={ c with sl:=λi' n'=>if i'=i/\n'=n then some v else c.sl i' n' }
def Ctx.addSl_le{c:Ctx}{i n:Nat}{v:Value}(h:c.sl i n=none):c.le (c.addSl i n v) :=
 ⟨λ_ _ _ h=>h,λ_ _ h=>h,λi' n' u Q=>by
  simp only[Ctx.addSl];split
  .grind
  exact Q⟩
def DRel.flat{D:Nat->Nat->Option Value}{S:List (List V)}{vs:List Value}{sz:Nat}(h:∀(i j:Nat) (r:List V) (x:V),S[i]?=some r->r[j]?=some x->∃u,vs[i * sz+j]?=some u/\DRel D x u)
  {oq:List (List V)} {us:List Value} (hl:vs.length=S.length * sz) (k:∀(i j:Nat) (r:List V) (x:V),oq[i]?=some r->r[j]?=some x->∃u,us[i * sz+j]?=some u/\DRel D x u) :
  ∀(i j:Nat) (r:List V) (x:V),(S++oq)[i]?=some r->r[j]?=some x->∃u,(vs++us)[i * sz+j]?=some u/\DRel D x u:=by
 intro i j r x G hx;by_cases hi:i<S.length
 .grind
 rw[gz J]at G;obtain⟨u,Q,hd⟩:=k _ j r x G hx;have he:i * sz+j=vs.length+((i - S.length) * sz+j):=by exact Qbc
 refine⟨u,?_,hd⟩;rw[he,gz J];rw[show vs.length+((i - S.length) * sz+j) - vs.length=(i - S.length) * sz+j from by omega];exact Q
end Go.Abs

namespace Go.Abs
section
variable{E:Ent}{h:mz}{w:World}{sz:Nat}{S:List (List V)}
def qmy{c:Ctx}(s:HSim c h w)(k:E.ok c h w)(e:TypeId)(sz:Nat) :
  HSim (c.addSl h.length 0 (.slice none 0 0)) (h++[.arr e sz []]) w/\E.ok (c.addSl h.length 0 (.slice none 0 0)) (h++[.arr e sz []]) w:=by
 have nh:c.le (c.addSl h.length 0 (.slice none 0 0)):=Ctx.addSl_le ((s.dom _ (gj _)).2 0);have tj:∀i,i<h.length->∀m,(c.addSl h.length 0 (.slice none 0 0)).sl i m=c.sl i m:=λi hi m=>by grind[Ctx.addSl]
 have ni:∀{i:Nat} {o:AObj},h[i]?=some o->i<h.length:=λhi=>(gn.1 hi).1;have bF:ou (c.addSl h.length 0 (.slice none 0 0)) h.length (.arr e sz [])=none:=qgn;refine⟨⟨s.data,λi hi=>?_,λi o hi=>?_,λi j o o' b hi hj hb nl=>?_,λi o b j v hi hb hD=>?_⟩,⟨k.edom,k.ext.trans nh,k.blk0,ck,k.os,k.tape,k.output,k.size,k.frame,λi o b hi hb=>?_,k.dold⟩⟩
 .exact Qbd
 .rcases ve hi with O|⟨rfl,rfl⟩
  .exact Qbe
  refine⟨.slice none 0 0,[],bi,rfl,λm hm=>?_,World.ownsRow_nil w 0 e sz,Z,Z,Z,λb j hb=>by cases hb⟩;exact Qbf
 .rcases ve hi with O|⟨rfl,rfl⟩<;>rcases ve hj with U|⟨rfl,rfl⟩
  .exact Qbg
  .grind
  .grind
  rfl
 .rcases ve hi with O|⟨rfl,rfl⟩
  .exact Qbh
  grind
 rcases ve hi with O|⟨rfl,rfl⟩
 .exact Qbi
 grind
def Te{c:Ctx}{w':World}(s:HSim c h w)(k:E.ok c h w){i e m:Nat}{oq:List (List V)}{v v':Value}{us:List Value}(hi:h[i]?=some (.arr e sz S))
  (hv:c.sl i S.length=some v) (xc:oq.length=m) (hm:0<m) (oy:S.length+m<=68719476736) (td:∀r,r∈oq->r.length=sz)
  (dF:∀(i' j:Nat) (r:List V) (x:V),oq[i']?=some r->r[j]?=some x->∃u,us[i' * sz+j]?=some u/\DRel c.D x u) (ho:v'.oneCell'=true)
  (tp:∀xs,w.ownsRow 0 e sz v S.length xs->w'.ownsRow 0 e sz v' (S.length+m) (xs++us)) (gX:w'.os=w.os) (ht:w'.tape=w.tape) (gO:w'.output=w.output) (hs:w.heap.size<=w'.heap.size)
  (aH:(∃g,v.ownBlock=some g/\v'.ownBlock=some g/\∀k,k≠g->w'.heap[k]?=w.heap[k]?)\/(v'.ownBlock=some w.heap.size/\∀k,k<w.heap.size->w'.heap[k]?=w.heap[k]?)) :
  ∃c',c.le c'/\HSim c' (h.set i (.arr e sz (S++oq))) w'/\E.ok c' (h.set i (.arr e sz (S++oq))) w'/\Rel c' (.own i (S.length+m)) v':=by
 obtain⟨v0,vs,O,_,eW,U,h3,h4,h5,h6⟩:=s.obj i _ hi;rw[hv]at O;cases O;have oP:=tp vs U;have oT:c.sl i (S.length+m)=none:=eW _ J;have hle0:c.le (c.addSl i (S.length+m) v'):=Ctx.addSl_le oT;have hbold:ou c i (.arr e sz S)=v.ownBlock:=cx
 let h0:=vs++us
 have hL:h0.length=(S.length+m) * sz:=oP.1;have hcellL:∀g j u,v'.ownBlock=some g->h0[j]?=some u->w'.cell? ⟨g,j,none⟩=some u:=λg j u hg Q=>by
  have:=oP.cells hg j u Q
  rwa [cM,im]at this
 have hjl:∀b j u,c.D b j=some u->v'.ownBlock=some b->j<S.length * sz/\h0[j]?=some u:=λb j u hD pa=>by
  rcases aH with⟨g,hg,wu,hk⟩|⟨wu,hk⟩
  .rw[wu]at pa;cases pa;have hj:j<S.length * sz:=s.sep i _ b j u hi W hD;have hjl:j<vs.length:=by rw[U.1];exact hj
   have c1:=U.cells hg j vs[j] (by simp[hjl]);rw[cM,im,s.data b j u hD]at c1;grind
  rw[wu]at pa;cases pa;rw[s.noD (gj _)]at hD;cases hD
 let c':Ctx:={ c.addSl i (S.length+m) v' with D:=λb j=>if v'.ownBlock=some b/\j<h0.length then h0[j]? else c.D b j }
 have hDle:∀b j u,c.D b j=some u->c'.D b j=some u:=λb j u hD=>by grind
 have nh:c.le c':=⟨hDle,λ_ _ h=>h,hle0.sl⟩
 have Ag:∀b j u,c'.D b j=some u->(v'.ownBlock=some b/\j<h0.length/\h0[j]?=some u)\/(v'.ownBlock≠some b/\c.D b j=some u):=λb j u hD=>by grind
 have tj:∀j,j≠i->∀m',c'.sl j m'=c.sl j m':=λj hj m'=>by grind[Ctx.addSl]
 have BC:(S++oq).length=S.length+m:=by simp[xc]
 have hslv:c'.sl i (S++oq).length=some v':=by grind[Ctx.addSl]
 have sA:ou c' i (.arr e sz (S++oq))=v'.ownBlock:=cx;have hile:i<h.length:=(gn.1 hi).1;have vh:∀j o b,j≠i->h[j]?=some o->ou c j o=some b->w'.heap[b]?=w.heap[b]?:=λj o b hj rz hb=>by
  rcases aH with⟨g,hg,pa,hk⟩|⟨pa,hk⟩
  .exact Qbj
  exact hk b ((s.obj j o rz).lt hb)
 have FH:∀j o b,j≠i->h[j]?=some o->ou c j o=some b->v'.ownBlock≠some b:=λj o b hj rz hb fB=>by
  rcases aH with⟨g,hg,pa,hk⟩|⟨pa,hk⟩
  .exact Qbk
  exact Qbl
 have hnewblk:∀b,v'.ownBlock=some b->(∃i0 o0,E.h[i0]?=some o0/\ou E.c i0 o0=some b)\/E.w.heap.size<=b:=λb hb=>by
  rcases aH with⟨g,hg,pa,hk⟩|⟨pa,hk⟩
  .rw[pa]at hb;cases hb;exact k.newobj i _ _ hi W
  exact Qbm
 refine⟨c',nh,⟨λb j u hD=>?_,λj hj=>?_,λj o hj=>?_,λj j' o o' b hj uq hb nl=>?_,λj o b n u hj hb hD=>?_⟩,⟨k.edom,k.ext.trans nh,k.blk0,bu,gX.trans k.os,ht.trans k.tape,gO.trans k.output,jh k.size hs,λb hb qz=>?_,λj o b hj hb=>?_,λb j u hD=>?_⟩,
  .own i _ v' W ho⟩
 .rcases Ag b j u hD with⟨hg,_,Q⟩|⟨hg,v7⟩
  .grind
  have s6:=s.data b j u v7;rcases aH with⟨g,iK,pa,hk⟩|⟨pa,hk⟩
  .rw[World.cell?_of_block (w:=w) (hk b (λe=>hg (by rw[pa,e])))];exact s6
  exact Qbn
 .have uq:h.length<=j:=dy;have:=s.dom j uq;exact⟨this.1,λm'=>by rw[tj j J];exact this.2 m'⟩
 .rcases tk hj with⟨rfl,rfl⟩|⟨nv,rz⟩
  .refine⟨v',vs++us,hslv,ho,λm' uz=>?_,by rw[BC];exact oP,J,λr G=>?_,λi' j' r x G hx=>?_,λb n hb hn=>?_⟩
   .grind[Ctx.addSl]
   .grind
   .obtain⟨u,Q,hd⟩:=DRel.flat h5 U.1 dF i' j' r x G hx;exact⟨u,Q,hd.mono hDle⟩
   grind
  exact Qbo
 .rcases tk hj with⟨rfl,rfl⟩|⟨nv,rz⟩<;>rcases tk uq with⟨h8,h7⟩|⟨hne',hjo'⟩
  .omega
  .exact Qbp
  .subst h8;subst h7;rw[sA]at nl;rw[(s.obj j o rz).blk nh]at hb;grind
  exact Qbq
 .rcases tk hj with⟨rfl,rfl⟩|⟨nv,rz⟩
  .grind[AObj.shares]
  rw[(s.obj j o rz).blk nh]at hb;rcases Ag b n u hD with⟨hg,_⟩|⟨_,v7⟩
  .grind
  exact s.sep j o b n u rz hb v7
 .have nv:∀g,v.ownBlock=some g->b≠g:=λg hg e=>by
   subst e;rcases k.newobj i _ b hi W with⟨i0,o0,L,O⟩|U
   .grind
   omega
  rcases aH with⟨g,hg,pa,hk⟩|⟨pa,hk⟩
  .exact Qbr
  exact Qbs
 .rcases tk hj with⟨rfl,rfl⟩|⟨nv,rz⟩
  .grind
  exact Qbt
 rcases Ag b j u hD with⟨hg,_⟩|⟨_,v7⟩
 .grind
 exact k.dold b j u v7
def D5{c:Ctx}(s:HSim c h w)(p6:∀r,r∈S->r.length=sz)(L:0<sz){u:Value}(G:DRel c.D (.slice S) u) :
  ∃ad cap,u=.slice ad S.length cap/\(S=[]\/∃b off,ad=some ⟨b,off,none⟩/\∃us:List Value,us.length=S.length * sz/\(∀j v,us[j]?=some v->w.cell? ⟨b,off+j,none⟩=some v)/\(∀v,v∈us->v.oneCell'=true) /\
   ∀(i j:Nat) (r:List V) (x:V),S[i]?=some r->r[j]?=some x->∃v,us[i * sz+j]?=some v/\DRel c.D x v):=by
 cases G with
 |nil=>exact⟨none,0,rfl,.inl rfl⟩
 |empty a=>exact⟨some a,0,rfl,.inl rfl⟩
 |slice S b off cap rr g bS hB hc hD hh =>
  refine⟨_,cap,rfl,?_⟩;by_cases he:S=[]
  .grind
  refine .inr ⟨b,off,rfl,?_⟩;have hpos:0<S.length:=W;have:rr=sz:=by rw[<-bS S[0] Z,p6 S[0] Z]
  subst this;obtain⟨us,hl,hp⟩:=Ed (λk v=>w.cell? ⟨b,off+k,none⟩=some v/\v.oneCell'=true/\∀r x,S[k / rr]?=some r->r[k % rr]?=some x->DRel c.D x v) (S.length * rr) (λk hk=>by
   have hq:k / rr<S.length:=Nat.div_lt_of_lt_mul W;have td:S[k / rr].length=rr:=bS _ Z;have hm:k % rr<S[k / rr].length:=by simp_all[qik]
   have e1:S[k / rr]?=some S[k / rr]:=fk;have e2:S[k / rr][k % rr]?=some S[k / rr][k % rr]:=by simp[hm]
   have hd:=hD _ _ _ _ e1 e2;have pq:=hh _ _ _ _ e1 e2;have qh:off+k / rr * rr+k % rr=off+k:=by grind[qji,Nat.div_add_mod]
   rw[qh]at hd;refine⟨_,s.data _ _ _ hd,pq.one,λr x G hx=>?_⟩;rw[e1]at G;cases G;rw[e2]at hx;cases hx;exact pq)
  refine⟨us,hl,λj v hv=>(hp j v hv).1,λv hv=>?_,λi j r x G hx=>?_⟩
  .grind[iw]
  have hj:j<rr:=by rw[<-bS r (gw G)];exact(gn.1 hx).1
  have hi:i<S.length:=(gn.1 G).1;have ni:i * rr+j<us.length:=by have:(i+1) * rr<=S.length * rr:=jl _ hi;grind
  refine⟨us[i * rr+j],ba,(hp (i * rr+j) _ ba).2.2 r x ?_ ?_⟩
  .simp_all[qji,Nat.mul_add_div,Nat.div_eq_of_lt,jt]
  grind[qji,Nat.mul_add_mod,Nat.mod_eq_of_lt]
end
end Go.Abs

namespace Go.Abs
section
variable{E:Ent}{h:mz}{w:World}{i e sz:Nat}{S qq:List (List V)}{v v':Value}{us:List Value}
def ES{c:Ctx}(s:HSim c h w)(k:E.ok c h w)(e:TypeId)(sz:Nat) :
  c.le (c.addSl h.length 0 (.slice none 0 0))/\HSim (c.addSl h.length 0 (.slice none 0 0)) (h++[.uarr e sz []]) w/\E.ok (c.addSl h.length 0 (.slice none 0 0)) (h++[.uarr e sz []]) w:=by
 have nh:c.le (c.addSl h.length 0 (.slice none 0 0)):=Ctx.addSl_le ((s.dom _ (gj _)).2 0);have tj:∀i,i<h.length->∀m,(c.addSl h.length 0 (.slice none 0 0)).sl i m=c.sl i m:=λi hi m=>by grind[Ctx.addSl]
 have ni:∀{i:Nat} {o:AObj},h[i]?=some o->i<h.length:=λhi=>(gn.1 hi).1;have bF:ou (c.addSl h.length 0 (.slice none 0 0)) h.length (.uarr e sz [])=none:=qgn;refine⟨nh,⟨s.data,λi hi=>?_,λi o hi=>?_,λi j o o' b hi hj hb nl=>?_,λi o b j v hi hb hD=>?_⟩,⟨k.edom,k.ext.trans nh,k.blk0,ck,k.os,k.tape,k.output,k.size,k.frame,λi o b hi hb=>?_,k.dold⟩⟩
 .exact Qbd
 .rcases ve hi with O|⟨rfl,rfl⟩
  .exact Qbe
  exact Qbu
 .rcases ve hi with O|⟨rfl,rfl⟩<;>rcases ve hj with U|⟨rfl,rfl⟩
  .exact Qbg
  .grind
  .grind
  rfl
 .rcases ve hi with O|⟨rfl,rfl⟩
  .exact Qbh
  grind
 rcases ve hi with O|⟨rfl,rfl⟩
 .exact Qbi
 grind
def Kb{c:Ctx}{w':World}(s:HSim c h w)(k:E.ok c h w)(hi:h[i]?=some (.uarr e sz S))
  (hv:c.sl i S.length=some v) (xc:S.length<qq.length) (oy:qq.length<=68719476736) (td:∀r,r∈qq->r.length=sz)
  (dF:∀(i' j:Nat) (r:List V) (x:V),qq[i']?=some r->r[j]?=some x->∃u,us[i' * sz+j]?=some u/\DRel c.D x u) (ho:v'.oneCell'=true)
  (oP:w'.ownsRow 0 e sz v' qq.length us) (gX:w'.os=w.os) (ht:w'.tape=w.tape) (gO:w'.output=w.output) (hs:w.heap.size<=w'.heap.size)
  (aH:(∃g,v.ownBlock=some g/\v'.ownBlock=some g/\∀k,k≠g->w'.heap[k]?=w.heap[k]?)\/(v'.ownBlock=some w.heap.size/\∀k,k<w.heap.size->w'.heap[k]?=w.heap[k]?)) :
  ∃c',c.le c'/\HSim c' (h.set i (.uarr e sz qq)) w'/\E.ok c' (h.set i (.uarr e sz qq)) w'/\Rel c' (.own i qq.length) v':=by
 obtain⟨v0,vs,O,_,eW,U,h3,h4,h5⟩:=s.obj i _ hi;rw[hv]at O;cases O;have oT:c.sl i qq.length=none:=eW _ xc;have nh:c.le (c.addSl i qq.length v'):=Ctx.addSl_le oT;have tj:∀j,j≠i->∀m',(c.addSl i qq.length v').sl j m'=c.sl j m':=λj hj m'=>by grind[Ctx.addSl]
 have hslv:(c.addSl i qq.length v').sl i qq.length=some v':=bi;have sA:ou (c.addSl i qq.length v') i (.uarr e sz qq)=v'.ownBlock:=cx;have hbold:ou c i (.uarr e sz S)=v.ownBlock:=cx;have vh:∀j o b,j≠i->h[j]?=some o->ou c j o=some b->w'.heap[b]?=w.heap[b]?:=λj o b hj rz hb=>by
  rcases aH with⟨g,hg,pa,hk⟩|⟨pa,hk⟩
  .exact Qbj
  exact hk b ((s.obj j o rz).lt hb)
 have FH:∀j o b,j≠i->h[j]?=some o->ou c j o=some b->v'.ownBlock≠some b:=λj o b hj rz hb fB=>by
  rcases aH with⟨g,hg,pa,hk⟩|⟨pa,hk⟩
  .exact Qbk
  exact Qbl
 have B0:∀b,v'.ownBlock=some b->∀j u,c.D b j=some u->False:=λb hb j u hD=>by
  rcases aH with⟨g,hg,pa,hk⟩|⟨pa,hk⟩
  .rw[pa]at hb;cases hb;exact s.sep i _ _ j u hi W hD
  rw[pa]at hb;cases hb;rw[s.noD (gj _)]at hD;cases hD
 refine⟨_,nh,⟨λb j u hD=>?_,λj hj=>?_,λj o hj=>?_,λj j' o o' b hj uq hb nl=>?_,λj o b n u hj hb hD=>?_⟩,⟨k.edom,k.ext.trans nh,k.blk0,bu,gX.trans k.os,ht.trans k.tape,gO.trans k.output,jh k.size hs,λb hb qz=>?_,λj o b hj hb=>?_,k.dold⟩,
  .own i _ v' bi ho⟩
 .have v7:c.D b j=some u:=hD;have s6:=s.data b j u v7;rcases aH with⟨g,hg,pa,hk⟩|⟨pa,hk⟩
  .exact Qbv
  exact Qbn
 .have uq:h.length<=j:=dy;have hilt:i<h.length:=(gn.1 hi).1;have:=s.dom j uq;exact⟨this.1,λm'=>by rw[tj j J];exact this.2 m'⟩
 .rcases tk hj with⟨rfl,rfl⟩|⟨nv,rz⟩
  .refine⟨v',us,hslv,ho,λm' uz=>?_,oP,oy,td,dF⟩;simp only[Ctx.addSl];grind
  exact Qbo
 .rcases tk hj with⟨rfl,rfl⟩|⟨nv,rz⟩<;>rcases tk uq with⟨h6,h7⟩|⟨hne',hjo'⟩
  .omega
  .exact Qbp
  .exact Qbw
  exact Qbq
 .have v7:c.D b n=some u:=hD;rcases tk hj with⟨rfl,rfl⟩|⟨nv,rz⟩
  .grind
  exact Qbx
 .have nv:∀g,v.ownBlock=some g->b≠g:=λg hg e=>by
   subst e;rcases k.newobj i _ b hi W with⟨i0,o0,L,O⟩|U
   .grind
   omega
  rcases aH with⟨g,hg,pa,hk⟩|⟨pa,hk⟩
  .exact Qbr
  exact Qbs
 rcases tk hj with⟨rfl,rfl⟩|⟨nv,rz⟩
 .rw[sA]at hb;rcases aH with⟨g,hg,pa,hk⟩|⟨pa,hk⟩
  .rw[pa]at hb;cases hb;exact k.newobj j _ _ hi W
  exact Qbm
 exact Qbt
def Hy{c:Ctx}(s:HSim c h w)(k:E.ok c h w)(hi:h[i]?=some (.uarr e sz S)) :
  ∃c',c.le c'/\HSim c' (h.set i (.arr e sz S)) w/\E.ok c' (h.set i (.arr e sz S)) w:=by
 obtain⟨v,vs,hv,ho,eW,U,h3,h4,h5⟩:=s.obj i _ hi;have hbold:ou c i (.uarr e sz S)=v.ownBlock:=cx;have B0:∀b,v.ownBlock=some b->∀j u,c.D b j=some u->False:=λb hb j u hD=>s.sep i _ b j u hi W hD
 let c':Ctx:={ c with D:=λb j=>if v.ownBlock=some b/\j<vs.length then vs[j]? else c.D b j }
 have hDle:∀b j u,c.D b j=some u->c'.D b j=some u:=λb j u hD=>by grind
 have nh:c.le c':=⟨hDle,λ_ _ h=>h,λ_ _ _ h=>h⟩
 have Ag:∀b j u,c'.D b j=some u->(v.ownBlock=some b/\j<vs.length/\vs[j]?=some u)\/(v.ownBlock≠some b/\c.D b j=some u):=λb j u hD=>by grind
 have sA:ou c' i (.arr e sz S)=v.ownBlock:=by show(c.sl i S.length).bind Value.ownBlock=_;rw[hv];rfl
 have yW:∀j o b,(h.set i (.arr e sz S))[j]?=some o->ou c' j o=some b->∃o0,h[j]?=some o0/\ou c j o0=some b:=λj o b hj hb=>by
  rcases tk hj with⟨rfl,rfl⟩|⟨nv,rz⟩
  .grind
  rw[(s.obj j o rz).blk nh]at hb;grind
 refine⟨c',nh,⟨λb j u hD=>?_,λj hj=>s.dom j W,λj o hj=>?_,λj j' o o' b hj uq hb nl=>?_,λj o b n u hj hb hD=>?_⟩,
  ⟨k.edom,k.ext.trans nh,k.blk0,bu,k.os,k.tape,k.output,k.size,k.frame,λj o b hj hb=>?_,λb j u hD=>?_⟩⟩
 .rcases Ag b j u hD with⟨hg,_,Q⟩|⟨_,v7⟩
  .have:=U.cells hg j u Q
   rwa [cM,im]at this
  exact s.data b j u v7
 .rcases tk hj with⟨rfl,rfl⟩|⟨nv,rz⟩
  .refine⟨v,vs,hv,ho,eW,U,h3,h4,λi' j' r x G hx=>(h5 i' j' r x G hx).imp λu Q=>⟨Q.1,Q.2.mono hDle⟩,λb n hb hn=>?_⟩;rw[<-U.1]at hn;grind
  exact(s.obj j o rz).keep nh (λ_=>rfl) λ_ _=>rfl
 .obtain⟨o1,g1,g2⟩:=yW j o b hj hb;obtain⟨o2,g3,g4⟩:=yW j' o' b uq nl;exact s.apart j j' o1 o2 b g1 g3 g2 g4
 .rcases tk hj with⟨rfl,rfl⟩|⟨nv,rz⟩
  .rw[sA]at hb;simp only[AObj.shares];rcases Ag b n u hD with⟨_,hn,_⟩|⟨hg,_⟩
   .rw[<-U.1];exact hn
   grind
  rw[(s.obj j o rz).blk nh]at hb;rcases Ag b n u hD with⟨hg,_⟩|⟨_,v7⟩
  .exact(nv (s.apart j i o _ b rz hi hb W)).elim
  exact s.sep j o b n u rz hb v7
 .obtain⟨o1,g1,g2⟩:=yW j o b hj hb;exact k.newobj j o1 b g1 g2
 rcases Ag b j u hD with⟨hg,_⟩|⟨_,v7⟩
 .rcases k.newobj i _ b hi W with⟨i0,o0,g1,g2⟩|g1
  .grind
  omega
 exact k.dold b j u v7
def tX(E:Ent)(e:Env){t:Nat}(hi:e.h[i]?=some (.uarr t sz S)):Wk E e ⟨e.t,e.h.set i (.arr t sz S)⟩:=λc a w s k=>by obtain⟨c',nh,s',k'⟩:=Hy s.hs k hi;exact⟨c',⟨s.defers,s.size,λj=>(s.tmps j).mono nh,s'⟩,k'⟩
def cS(n0:Nat):Nat->mz->mz
 |_,[]=>[]
 |k,.uarr t sz S::l=>(bif Nat.ble n0 k then .arr t sz S else .uarr t sz S)::cS n0 (k+1) l
 |k,o::l=>o::cS n0 (k+1) l
def QA(E:Ent)(n0:Nat)(t:List (Nat×V)):∀(l done:mz),Wk E ⟨t,done++l⟩ ⟨t,done++cS n0 done.length l⟩
 | [],done=>.refl E _
 |o::l,done=>by
  have key:∀o',Wk E ⟨t,done++o::l⟩ ⟨t,done++o'::l⟩->Wk E ⟨t,done++o::l⟩ ⟨t,done++o'::cS n0 (done.length+1) l⟩:=λo' h=>by refine h.trans ?_;have:=QA E n0 t l (done++[o']);grind
  cases o with
  |uarr a b r =>
   simp only[cS];cases Nat.ble n0 done.length with
   |true =>
    refine key _ ?_;have:=tX E ⟨t,done++.uarr a b r::l⟩ (i:=done.length) (t:=a) (sz:=b) (S:=r) Z;grind
   |false=>exact key _ (.refl E _)
  |none=>exact key _ (.refl E _)
  |cells _=>exact key _ (.refl E _)
  |map _=>exact key _ (.refl E _)
  |arr _ _ _=>exact key _ (.refl E _)
  |iter _ _=>exact key _ (.refl E _)
  |raw _ _ _=>exact key _ (.refl E _)
  |oarr _ _ _=>exact key _ (.refl E _)
def qqe(E:Ent)(n0:Nat)(e:Env):Wk E e ⟨e.t,cS n0 0 e.h⟩:=QA E n0 e.t e.h []
def RX{c:Ctx}(s:HSim c h w)(k:E.ok c h w)(e:TypeId)(sz:Nat) :
  c.le (c.addSl h.length 0 (.slice none 0 0))/\HSim (c.addSl h.length 0 (.slice none 0 0)) (h++[.oarr e sz []]) w/\E.ok (c.addSl h.length 0 (.slice none 0 0)) (h++[.oarr e sz []]) w:=by
 have nh:c.le (c.addSl h.length 0 (.slice none 0 0)):=Ctx.addSl_le ((s.dom _ (gj _)).2 0);have tj:∀i,i<h.length->∀m,(c.addSl h.length 0 (.slice none 0 0)).sl i m=c.sl i m:=λi hi m=>by grind[Ctx.addSl]
 have ni:∀{i:Nat} {o:AObj},h[i]?=some o->i<h.length:=λhi=>(gn.1 hi).1;have bF:ou (c.addSl h.length 0 (.slice none 0 0)) h.length (.oarr e sz [])=none:=qgn;refine⟨nh,⟨s.data,λi hi=>?_,λi o hi=>?_,λi j o o' b hi hj hb nl=>?_,λi o b j v hi hb hD=>?_⟩,⟨k.edom,k.ext.trans nh,k.blk0,ck,k.os,k.tape,k.output,k.size,k.frame,λi o b hi hb=>?_,k.dold⟩⟩
 .exact Qbd
 .rcases ve hi with O|⟨rfl,rfl⟩
  .exact Qbe
  exact Qbu
 .rcases ve hi with O|⟨rfl,rfl⟩<;>rcases ve hj with U|⟨rfl,rfl⟩
  .exact Qbg
  .grind
  .grind
  rfl
 .rcases ve hi with O|⟨rfl,rfl⟩
  .exact Qbh
  grind
 rcases ve hi with O|⟨rfl,rfl⟩
 .exact Qbi
 grind
def NM{c:Ctx}{w':World}(s:HSim c h w)(k:E.ok c h w)(hi:h[i]?=some (.oarr e sz S))
  (hv:c.sl i S.length=some v) (xc:S.length<qq.length) (oy:qq.length<=68719476736) (td:∀r,r∈qq->r.length=sz)
  (dF:∀(i' j:Nat) (r:List V) (x:V),qq[i']?=some r->r[j]?=some x->∃u,us[i' * sz+j]?=some u/\Rel c x u/\u.oneCell'=true) (ho:v'.oneCell'=true)
  (oP:w'.ownsRow 0 e sz v' qq.length us) (gX:w'.os=w.os) (ht:w'.tape=w.tape) (gO:w'.output=w.output) (hs:w.heap.size<=w'.heap.size)
  (aH:(∃g,v.ownBlock=some g/\v'.ownBlock=some g/\∀k,k≠g->w'.heap[k]?=w.heap[k]?)\/(v'.ownBlock=some w.heap.size/\∀k,k<w.heap.size->w'.heap[k]?=w.heap[k]?)) :
  ∃c',c.le c'/\HSim c' (h.set i (.oarr e sz qq)) w'/\E.ok c' (h.set i (.oarr e sz qq)) w'/\Rel c' (.own i qq.length) v':=by
 obtain⟨v0,vs,O,_,eW,U,h3,h4,h5⟩:=s.obj i _ hi;rw[hv]at O;cases O;have oT:c.sl i qq.length=none:=eW _ xc;have nh:c.le (c.addSl i qq.length v'):=Ctx.addSl_le oT;have tj:∀j,j≠i->∀m',(c.addSl i qq.length v').sl j m'=c.sl j m':=λj hj m'=>by grind[Ctx.addSl]
 have hslv:(c.addSl i qq.length v').sl i qq.length=some v':=bi;have sA:ou (c.addSl i qq.length v') i (.oarr e sz qq)=v'.ownBlock:=cx;have hbold:ou c i (.oarr e sz S)=v.ownBlock:=cx;have vh:∀j o b,j≠i->h[j]?=some o->ou c j o=some b->w'.heap[b]?=w.heap[b]?:=λj o b hj rz hb=>by
  rcases aH with⟨g,hg,pa,hk⟩|⟨pa,hk⟩
  .exact Qbj
  exact hk b ((s.obj j o rz).lt hb)
 have FH:∀j o b,j≠i->h[j]?=some o->ou c j o=some b->v'.ownBlock≠some b:=λj o b hj rz hb fB=>by
  rcases aH with⟨g,hg,pa,hk⟩|⟨pa,hk⟩
  .exact Qbk
  exact Qbl
 have B0:∀b,v'.ownBlock=some b->∀j u,c.D b j=some u->False:=λb hb j u hD=>by
  rcases aH with⟨g,hg,pa,hk⟩|⟨pa,hk⟩
  .rw[pa]at hb;cases hb;exact s.sep i _ _ j u hi W hD
  rw[pa]at hb;cases hb;rw[s.noD (gj _)]at hD;cases hD
 refine⟨_,nh,⟨λb j u hD=>?_,λj hj=>?_,λj o hj=>?_,λj j' o o' b hj uq hb nl=>?_,λj o b n u hj hb hD=>?_⟩,⟨k.edom,k.ext.trans nh,k.blk0,bu,gX.trans k.os,ht.trans k.tape,gO.trans k.output,jh k.size hs,λb hb qz=>?_,λj o b hj hb=>?_,k.dold⟩,
  .own i _ v' bi ho⟩
 .have v7:c.D b j=some u:=hD;have s6:=s.data b j u v7;rcases aH with⟨g,hg,pa,hk⟩|⟨pa,hk⟩
  .exact Qbv
  exact Qbn
 .have uq:h.length<=j:=dy;have hilt:i<h.length:=(gn.1 hi).1;have:=s.dom j uq;exact⟨this.1,λm'=>by rw[tj j J];exact this.2 m'⟩
 .rcases tk hj with⟨rfl,rfl⟩|⟨nv,rz⟩
  .refine⟨v',us,hslv,ho,λm' uz=>?_,oP,oy,td,λi' j' r x G hx=>(dF i' j' r x G hx).imp λu Q=>⟨Q.1,Q.2.1.mono nh,Q.2.2⟩⟩;simp only[Ctx.addSl];grind
  exact Qbo
 .rcases tk hj with⟨rfl,rfl⟩|⟨nv,rz⟩<;>rcases tk uq with⟨h6,h7⟩|⟨hne',hjo'⟩
  .omega
  .exact Qbp
  .exact Qbw
  exact Qbq
 .have v7:c.D b n=some u:=hD;rcases tk hj with⟨rfl,rfl⟩|⟨nv,rz⟩
  .grind
  exact Qbx
 .have nv:∀g,v.ownBlock=some g->b≠g:=λg hg e=>by
   subst e;rcases k.newobj i _ b hi W with⟨i0,o0,L,O⟩|U
   .grind
   omega
  rcases aH with⟨g,hg,pa,hk⟩|⟨pa,hk⟩
  .exact Qbr
  exact Qbs
 rcases tk hj with⟨rfl,rfl⟩|⟨nv,rz⟩
 .rw[sA]at hb;rcases aH with⟨g,hg,pa,hk⟩|⟨pa,hk⟩
  .rw[pa]at hb;cases hb;exact k.newobj j _ _ hi W
  exact Qbm
 exact Qbt
end
end Go.Abs
