/- Part 4 of a proof. -/
import Derived.Test.YtolejdhnnchfpaaGreatDoorQ03
set_option linter.all false
namespace Go.Abs
theorem Rel.val_inv{c:Ctx}{x v:Value}(h:Rel c (.val x) v):v=x:=by
 cases h with
 |data h=>cases h;rfl
 |val=>rfl
theorem Rel.slice_inv{c:Ctx}{rows:List (List AV)}{v:Value}:Rel c (.slice rows) v->DRel c.D (.slice rows) v
 | .data h=>h
theorem li{P:Program}{t:TypeId}{k:TK}(h:im P t=k)(hk:k≠.other) :
  ∃i d z,P.info? t=some i/\P.underlying t=some d/\i.zero=some z/\qd P d=k/\jd P t=i.size/\jh P t=z.cells.toList.map ul/\z.cells.size=i.size/\∀v,v∈z.cells.toList->v.oneCell'=true:=by
 unfold im at h;unfold jd jh;split at h
 .grind[xdx]
 .grind
theorem vh{P:Program}{d:TypeDesc}{e sz:Nat}(h:qd P d=.slice e sz):d=.slice e/\∃i,P.info? e=some i/\i.size=sz:=by
 cases d with
 |slice e' =>
  simp only[qd]at h;split at h
  .rename_i hs;simp only[TK.slice.injEq]at h;obtain⟨rfl,rfl⟩:=h;obtain⟨i,hi⟩:=Option.isSome_iff_exists.1 hs;exact⟨rfl,i,hi,by simp[Program.cellsOf,hi]⟩
  .cases h
 |struct fs=>simp only[qd]at h;split at h<;>cases h
 |array n e=>simp only[qd]at h;split at h<;>cases h
 |_=>simp[qd]at h
theorem qx9{P:Program}{d:TypeDesc}{n e sz:Nat}(h:qd P d=.array n e sz):d=.array n e/\∃i,P.info? e=some i/\i.size=sz:=by
 cases d with
 |array n' e' =>
  simp only[qd]at h;split at h
  .rename_i hs;simp only[TK.array.injEq]at h;obtain⟨rfl,rfl,rfl⟩:=h;obtain⟨i,hi⟩:=Option.isSome_iff_exists.1 hs;exact⟨rfl,i,hi,by simp[Program.cellsOf,hi]⟩
  .cases h
 |struct fs=>simp only[qd]at h;split at h<;>cases h
 |slice e=>simp only[qd]at h;split at h<;>cases h
 |_=>simp[qd]at h
theorem xrl{P:Program}{d:TypeDesc}{fs:List (Nat×Nat)}(h:qd P d=.struct fs) :
  ∃l,d=.struct l/\(∀f,f∈l.toList->∃i,P.info? f.type=some i)/\fs=l.toList.map λf=>(f.offset,P.cellsOf f.type):=by
 cases d with
 |struct l =>
  simp only[qd]at h;split at h
  .rename_i hs;simp only[TK.struct.injEq]at h;exact⟨l,rfl,λf hf=>Option.isSome_iff_exists.1 (dr.1 hs f hf),h.symm⟩
  .cases h
 |array n e=>simp only[qd]at h;split at h<;>cases h
 |slice e=>simp only[qd]at h;split at h<;>cases h
 |_=>simp[qd]at h
theorem qza{P:Program}{d:TypeDesc}(h:qd P d=.string):d=.string:=by
 cases d<;>simp only[qd]at h<;>first|rfl|(split at h<;>cases h)|cases h
theorem xon{P:Program}{d:TypeDesc}(h:qd P d=.bool):d=.bool:=by
 cases d<;>simp only[qd]at h<;>first|rfl|(split at h<;>cases h)|cases h
theorem xpq{P:Program}{d:TypeDesc}{k:IntKind}(h:qd P d=.int k):d=.int k:=by
 cases d<;>simp only[qd]at h<;>first|(split at h<;>cases h)|(cases h;done)|(simp only[TK.int.injEq]at h;rw[h])
theorem ox{P:Program}{t:TypeId}{d:TypeDesc}(h:P.underlying t=some d)(w:World):(underlying t).run P w=.ok d w:=run_underlying h w
theorem xl{P:Program}{t:TypeId}{i:TypeInfo}(h:P.info? t=some i)(w:World):(sizeOf t).run P w=.ok i.size w:=by
 simp[sizeOf,run_typeInfo _ h]
theorem xkw{P:Program}{t:TypeId}{d:TypeDesc}(h:P.underlying t=some d)(hk:qd P d≠.other)(w:World):(isAgg t).run P w=.ok (qd P d).agg w:=by
 simp only[isAgg,c8,ox h,c9];cases d<;>first|rfl|(simp only[qd]at hk|-;split<;>first|rfl|(rename_i hs;simp[hs]at hk))
theorem toList_inj{a b:ByteArray}:(a.toList == b.toList)=decide (a=b):=by
 have hl:∀x:ByteArray,x.toList=x.data.toList:=λx=>ByteArray.toList_eq x;rw[hl,hl];by_cases h:a=b
 .grind
 .have:a.data.toList≠b.data.toList:=λe=>h (by
   cases a;cases b;simp at e;simp[e])
  rw[beq_eq_false_iff_ne.2 this,decide_eq_false h]
theorem run_equalIn_bool{P:Program}{t:TypeId}(hu:P.underlying t=some .bool)(a b:Bool)(w:World)(n:Nat):(Op.equalIn (n+1) t (.bool a) (.bool b)).run P w=.ok (a == b) w:=by
 simp[Op.equalIn,ox hu]
theorem run_eql_bool{P:Program}{t:TypeId}(hu:P.underlying t=some .bool)(a b:Bool)(w:World):(binOp .eql t (.bool a) (.bool b)).run P w=.ok (.bool (decide (a=b))) w:=by
 show(do pure (.bool (<-Op.equalIn (9999+1) t (.bool a) (.bool b))):Sem Value).run P w=_;simp only[c8,run_equalIn_bool hu,c9,dm];cases a<;>cases b<;>rfl
theorem run_neq_bool{P:Program}{t:TypeId}(hu:P.underlying t=some .bool)(a b:Bool)(w:World):(binOp .neq t (.bool a) (.bool b)).run P w=.ok (.bool (!decide (a=b))) w:=by
 show(do pure (.bool (!(<-Op.equalIn (9999+1) t (.bool a) (.bool b)))):Sem Value).run P w=_;simp only[c8,run_equalIn_bool hu,c9,dm];cases a<;>cases b<;>rfl
section
variable {P:Program} {c:Ctx} {h:g9} {w:World}
theorem xic:∀{ks:List TK} {xs:List AV} {vs:List Value},xs.length=vs.length->(∀(j:Nat) (x:AV) (v:Value),xs[j]?=some x->vs[j]?=some v->Rel c x v)->zo ks xs->oa ks vs/\xs=vs.map AV.val
 | [],[],[],_,_,_=>⟨trivial,rfl⟩
 | [],_::_,_,_,_,h=>by simp[zo]at h
 |k::ks,[],_,_,_,h=>by cases k<;>simp[zo]at h
 |_::_,_::_,[],hl,_,_=>by simp at hl
 | [],[],_::_,hl,_,_=>by simp at hl
 |k::ks,x::xs,v::vs,hl,hr,h=>by
  have h0:=hr 0 x v rfl rfl;have ih:=λh'=>xic (ks:=ks) (xs:=xs) (vs:=vs) af (λj x v hx hv=>hr (j+1) x v af af) h';cases k<;>cases x<;>first|(simp[zo]at h;done)|skip
  all_goals rename_i u;cases u<;>first|(simp[zo]at h;done)|skip
  .obtain rfl:=h0.val_inv;simpa[oa]using ih (by grind[zo])
  .obtain rfl:=h0.val_inv;simp only[zo]at h;have:=ih h.2;simpa[oa,h.1]using this
  .obtain rfl:=h0.val_inv;simpa[oa]using ih (by grind[zo])
theorem xd1:∀{ks:List TK} {xs ys:List Value},oa ks xs->oa ks ys->eqA (xs.map AV.val) (ys.map AV.val)=yc xs ys
 | [],[],[],_,_=>rfl
 | [],_::_,_,h,_=>by simp[oa]at h
 | [],[],_::_,_,h=>by simp[oa]at h
 |k::ks,[],_,h,_=>by cases k<;>simp[oa]at h
 |k::ks,_::_,[],_,h=>by cases k<;>simp[oa]at h
 |k::ks,x::xs,y::ys,hx,hy=>by
  cases k<;>cases x<;>simp only[oa]at hx<;>first|(exact hx.elim)|skip
  all_goals cases y<;>simp only[oa]at hy<;>first|(exact hy.elim)|skip
  .simp[eqA,yc,xd1 hx hy]
  .simp[eqA,yc,xd1 hx.2 hy.2]
  .simp[eqA,yc,xd1 hx hy]
theorem xts{T:TypeId}{xs ys:List AV}{u v:Value}(hx:Rel c (.agg xs) u)(hy:Rel c (.agg ys) v)(it:qkr P T≠[])(h1:zo (qkr P T) xs)(h2:zo (qkr P T) ys)(op:BinOp)(lf:(op matches .eql| .neq)=true)(xo yo:Operand) :
  (eqGuard op T xo yo u v).run P w=.ok () w/\(Op.equal T u v).run P w=.ok (eqA xs ys) w/\∃us vs,u=.agg us/\v=.agg vs:=by
 obtain⟨us,rfl,vp,hur⟩:∃us,u=.agg us/\us.size=xs.length/\∀(j:Nat) (x:AV) (v:Value),xs[j]?=some x->us[j]?=some v->Rel c x v:=by
  cases hx with
  |data h=>cases h
  |agg _ vs hl _ h=>exact⟨vs,rfl,hl,h⟩
 obtain⟨vs,rfl,hvl,hvr⟩:∃us,v=.agg us/\us.size=ys.length/\∀(j:Nat) (x:AV) (v:Value),ys[j]?=some x->us[j]?=some v->Rel c x v:=by
  cases hy with
  |data h=>cases h
  |agg _ vs hl _ h=>exact⟨vs,rfl,hl,h⟩
 unfold qkr at it h1 h2;split at it
 .rename_i hc;rw[if_pos hc]at h1 h2;cases hf:qm1 P 8 T with
  |none=>rw[hf]at it;exact(it rfl).elim
  |some ks =>
   rw[hf]at h1 h2;simp only[gq]at h1 h2;obtain⟨f1,rfl⟩:=xic (vs:=us.toList) (by simp[vp]) (λj x v hx hv=>hur j x v hx af) h1;obtain⟨f2,rfl⟩:=xic (vs:=vs.toList) (by simp[hvl]) (λj x v hx hv=>hvr j x v hx af) h2;have hmk:∀zs:Array Value,mkV P T zs.toList=.agg zs:=by
    obtain⟨kd,hu⟩:=xn7 hf;have:∃fs,kd=.struct fs:=by grind[TK.agg,qd,qm1,im,xdx]
    obtain⟨fs,rfl⟩:=this;intro zs;simp[mkV,hu]
   have he:=xm1 (w:=w) 8 9992 T ks hf us.toList vs.toList f1 f2;rw[hmk,hmk]at he;rw[xd1 f1 f2];refine⟨?_,he,us,vs,rfl,rfl⟩;cases op<;>simp at lf<;>simp[eqGuard,hc.1]
 .grind
theorem xt9{t:TypeId}(h:im P t=.iface):∃ms,P.underlying t=some (.interface ms):=by
 obtain⟨i,d,z,h1,h2,h3,h4,_⟩:=li h ac;cases d with
 |interface ms=>exact⟨ms,h2⟩
 |struct fs=>simp only[qd]at h4;split at h4<;>cases h4
 |array n e=>simp only[qd]at h4;split at h4<;>cases h4
 |slice e=>simp only[qd]at h4;split at h4<;>cases h4
 |_=>cases h4
theorem xsn{t:TypeId}(h:xb4 P t=true):∃ms,P.underlying t=some (.interface ms)/\ms.isEmpty=true:=by grind[xb4]
theorem xye{t a:TypeId}{ms}(hu:P.underlying t=some (.interface ms)){v:Value}(n:Nat):(Op.equalIn (n+1) t (.iface a v) .nilIface).run P w=.ok false w:=by
 simp[Op.equalIn,ox hu]
theorem jll{t a:TypeId}{ms}(hu:P.underlying t=some (.interface ms)){v:Value}:(Op.equalIn 10000 t (.iface a v) .nilIface).run P w=.ok false w:=xye hu 9999
theorem xwu{t:TypeId}{ms}(hu:P.underlying t=some (.interface ms))(n:Nat):(Op.equalIn (n+1) t .nilIface .nilIface).run P w=.ok true w:=by
 simp[Op.equalIn,ox hu]
theorem jnm{t:TypeId}{ms}(hu:P.underlying t=some (.interface ms)):(Op.equalIn 10000 t .nilIface .nilIface).run P w=.ok true w:=xwu hu 9999
theorem jja{t:TypeId}{ms}(hu:P.underlying t=some (.interface ms))(hms:ms.isEmpty=true)(n:Nat):(Op.eqGuardIn (n+1) t .nilIface .nilIface).run P w=.ok false w:=by
 simp[Op.eqGuardIn,ox hu,hms]
theorem joy{op:BinOp}{t:TypeId}{ms}(hu:P.underlying t=some (.interface ms))(hms:ms.isEmpty=true){xo yo:Operand}:(eqGuard op t xo yo .nilIface .nilIface).run P w=.ok () w:=by
 have h1:(Op.eqGuardIn Op.maxDepth t .nilIface .nilIface).run P w=.ok false w:=jja hu hms 9999;unfold eqGuard;cases op<;>simp[h1]<;>(try split)<;>simp[h1]
theorem jgq{op:BinOp}{T:TypeId}{x y:AV}{xo yo:Operand}{u v:Value}(hx:Rel c x u)(hy:Rel c y v)(hs:(xbf P op T x y).side) :
  ∃r,((do eqGuard op T xo yo u v;binOp op T u v:Sem Value)).run P w=.ok r w/\Rel c (xbf P op T x y).val r:=by
 unfold xbf at *;split at hs
 .rename_i k a k' b;obtain rfl:=hx.val_inv;obtain rfl:=hy.val_inv;split at hs
  .exact⟨_,qia,.val _⟩
  .exact⟨_,qia,.val _⟩
  .obtain⟨rfl,hs⟩:=hs;cases op<;>simp only[xdu,SV.no]at hs|-<;>first|(exact hs.elim)|skip
   all_goals simp[eqGuard,binOp,Op.intArith,Op.intDiv,Op.intCmp,Op.intBits, *]
   all_goals first|exact .val _|(rename_i it;exact .val _)|skip
 .rename_i a b;obtain rfl:=hx.val_inv;obtain rfl:=hy.val_inv;cases op<;>simp only[xgw,SV.no]at hs|-<;>first|(exact hs.elim)|skip
  case add =>
   have hm:¬(((a.size+b.size:Nat):Int) > IntKind.i64.max):=by rw[IntKind.max_i64];omega
   refine⟨_,?_,.val _ (by grind[qkt,ByteArray.size_append])⟩;simp only[eqGuard_add,pure_bind,binOp,Op.stringOp,if_neg hm,dm]
  all_goals simp[eqGuard,binOp,Op.stringOp,toList_inj,js]
  all_goals exact .val _
 .rename_i a b;obtain rfl:=hx.val_inv;obtain rfl:=hy.val_inv;cases op<;>simp only[SV.no]at hs|-<;>first|(exact hs.elim)|skip
  .obtain⟨i,d,z,h1,h2,h3,h4,_⟩:=li hs ac;obtain rfl:=xon h4;exact⟨_,by simp only[eqGuard_at_bool,pure_bind];exact run_eql_bool h2 a b w,.val _⟩
  .obtain⟨i,d,z,h1,h2,h3,h4,_⟩:=li hs ac;obtain rfl:=xon h4;exact⟨_,by simp only[eqGuard_at_bool,pure_bind];exact run_neq_bool h2 a b w,.val _⟩
 .rename_i xs ys;cases op<;>simp only[SV.no]at hs|-<;>first|(exact hs.elim)|skip
  .obtain⟨g1,g2,us,vs,rfl,rfl⟩:=xts (w:=w) hx hy hs.1 hs.2.1 hs.2.2 .eql rfl xo yo;exact⟨_,qg4,.val _⟩
  .obtain⟨g1,g2,us,vs,rfl,rfl⟩:=xts (w:=w) hx hy hs.1 hs.2.1 hs.2.2 .neq rfl xo yo;exact⟨_,qg4,.val _⟩
 .rename_i t x';obtain rfl:=hy.val_inv;obtain⟨v',rfl⟩:∃v',u=.iface t v':=by
   cases hx with
   |data h=>cases h
   |iface _ _ v' h=>exact⟨v',rfl⟩
  cases op<;>simp only[SV.no]at hs|-<;>first|(exact hs.elim)|skip
  .obtain⟨ms,hu⟩:=xt9 hs;exact⟨_,qgb,.val _⟩
  .obtain⟨ms,hu⟩:=xt9 hs;exact⟨_,qgb,.val _⟩
 .obtain rfl:=hx.val_inv;obtain rfl:=hy.val_inv;cases op<;>simp only[SV.no]at hs|-<;>first|(exact hs.elim)|skip
  .obtain⟨ms,hu,hms⟩:=xsn hs;exact⟨_,qfw,.val _⟩
  .obtain⟨ms,hu,hms⟩:=xsn hs;exact⟨_,qfw,.val _⟩
 .exact hs.elim
end
theorem xbv{α:Type}(p:Nat->α->Prop):∀n,(∀j,j<n->∃v,p j v)->∃vs:List α,vs.length=n/\∀j v,vs[j]?=some v->p j v
 | 0,_=>⟨[],rfl,ac⟩
 |n+1,h=>by
  obtain⟨vs,hl,hp⟩:=xbv p n (λj hj=>h j aa);obtain⟨v,hv⟩:=h n aa;refine⟨vs++[v],qgk,λj u hu=>?_⟩;rcases oy hu with h1|⟨rfl,rfl⟩
  .exact hp j u h1
  .rw[hl];exact hv
section
variable {P:Program} {c:Ctx} {h:g9} {w:World}
theorem vg(b o n:Nat):Addr.add ⟨b,o,none⟩ n=⟨b,o+n,none⟩:=Addr.add_lit b o n
theorem qtn{t:TypeId}{b o:Nat}{xs:List AV}(hk:im P t≠.other)
  (hc:∀(j:Nat) (x:AV),xs[j]?=some x->∃v,w.cell? ⟨b,o+j,none⟩=some v/\Rel c x v/\v.oneCell'=true)
  (hs:(qlb (jd P t) (im P t).agg xs).side):∃v,(loadVar t ⟨b,o,none⟩).run P w=.ok v w/\Rel c (qlb (jd P t) (im P t).agg xs).val v:=by
 obtain⟨i,d,z,h1,h2,h3,h4,h5,_⟩:=li rfl hk;have ha:=xkw h2 af w;rw[h4]at ha;unfold loadVar;simp only[c8,ha,c9];cases hag:(im P t).agg with
 |true =>
  simp only[hag,qlb]at hs|-;obtain⟨vs,hl,hp⟩:=xbv (λj v=>w.cell? ⟨b,o+j,none⟩=some v/\(∀x,xs[j]?=some x->Rel c x v)/\v.oneCell'=true) (jd P t) (λj hj=>by
   have il:j<xs.length:=aa;obtain⟨v,hv,hr,h1⟩:=hc j xs[j] bc;exact⟨v,hv,λx hx=>by simp[il]at hx;subst hx;exact hr,h1⟩)
  have jk:=run_loadCells_list (P:=P) w ⟨b,o,none⟩ vs (λj v hv=>by rw[vg];exact(hp j v hv).1);rw[hl,h5]at jk;refine⟨.agg vs.toArray,by simp[xl h1,jk],.agg _ _ af (λj v hv=>(hp j v af).2.2) λj x v hx hv=>?_⟩;rw[dt]at hx;split at hx
  .grind
  .cases hx
 |false =>
  simp only[hag,qlb]at hs|-;obtain⟨v,hv,hr,_⟩:=hc 0 (xs.getD 0 .top) af;refine⟨v,?_,hr⟩;simp only[qje,if_false,run_load];simp only[ea]at hv;rw[hv]
theorem xd6{cells:List AV}{v:Value}(hr:Rel c (.eptr cells) v) :
  ∃b o,v=.pointer (some ⟨b,o,none⟩)/\(∀(j:Nat) (x:AV),cells[j]?=some x->∃u,c.D b (o+j)=some u/\DRel c.D x u):=by
 cases hr with
 |data h=>cases h
 |eptr cells b o g hD h=>exact⟨b,o,rfl,λj x hx=>⟨g j,hD j x hx,h j x hx⟩⟩
theorem xc3{cells:List AV}{b o:Nat}(h:∀(j:Nat) (x:AV),cells[j]?=some x->∃u,c.D b (o+j)=some u/\DRel c.D x u):Rel c (.eptr cells) (.pointer (some ⟨b,o,none⟩)) :=
 .eptr cells b o (λj=>(c.D b (o+j)).getD undef) (λj x hx=>by obtain⟨u,hu,_⟩:=h j x hx;simp[hu]) (λj x hx=>by obtain⟨u,hu,hd⟩:=h j x hx;simpa[hu]using hd)
theorem qul{i off:Nat}{v:Value}(hr:Rel c (.ptr i off) v):∃b,v=.pointer (some ⟨b,off,none⟩)/\c.blk i=some b:=by
 cases hr with
 |data h=>cases h
 |ptr i off b h=>exact⟨b,rfl,h⟩
theorem jg8(hs:HSim c h w){i off:Nat}{xs:List AV}{v:Value}(hr:Rel c (.ptr i off) v)(hi:h[i]?=some (.cells xs)) :
  ∃b,v=.pointer (some ⟨b,off,none⟩)/\c.blk i=some b/\(∀(j:Nat) (x:AV),(xs.drop off)[j]?=some x->∃u,w.cell? ⟨b,off+j,none⟩=some u/\Rel c x u/\u.oneCell'=true):=by
 obtain⟨b,rfl,hb⟩:=qul hr;refine⟨b,rfl,hb,λj x hx=>?_⟩;obtain⟨b',vs,T,h1,h2,h3,h4⟩:=hs.obj i _ hi;rw[hb]at h1;cases h1;rw[ew]at hx;have il:off+j<vs.size:=af;have:=h4 (off+j) x vs[off+j] hx bc;exact⟨vs[off+j],by rw[cell_of_row w b _ vs T (0,0) h2];simp[il],this⟩
theorem qwx(hs:HSim c h w){i n e sz:Nat}{rows:List (List AV)}(hi:h[i]?=some (.uarr e sz rows))(hn:rows.length=n){v:Value}(hr:Rel c (.own i n) v) :
  c.sl i n=some v/\∃vs,w.ownsRow 0 e sz v n vs/\(∀r,r∈rows->r.length=sz)/\∀(i' j:Nat) (r:List AV) (x:AV),rows[i']?=some r->r[j]?=some x->∃u,vs[i' * sz+j]?=some u/\DRel c.D x u:=by
 subst hn;cases hr with
 |data h=>cases h
 |own i n v hv ho =>
  obtain⟨v',vs,h1,_,_,h2,_,h4,h5⟩:=hs.obj i _ hi;rw[hv]at h1;cases h1;exact⟨hv,vs,h2,h4,h5⟩
theorem xfv(hs:HSim c h w){i n e sz:Nat}{rows:List (List AV)}(hi:h[i]?=some (.oarr e sz rows))(hn:rows.length=n){v:Value}(hr:Rel c (.own i n) v) :
  c.sl i n=some v/\∃vs,w.ownsRow 0 e sz v n vs/\(∀r,r∈rows->r.length=sz)/\∀(i' j:Nat) (r:List AV) (x:AV),rows[i']?=some r->r[j]?=some x->∃u,vs[i' * sz+j]?=some u/\Rel c x u/\u.oneCell'=true:=by
 subst hn;cases hr with
 |data h=>cases h
 |own i n v hv ho =>
  obtain⟨v',vs,h1,_,_,h2,_,h4,h5⟩:=hs.obj i _ hi;rw[hv]at h1;cases h1;exact⟨hv,vs,h2,h4,h5⟩
theorem qw4{i n sz r q:Nat}{v:Value}(hr:Rel c (.optr i n sz r q) v):∃b o len cap,v=.pointer (some ⟨b,o+(r * sz+q),none⟩)/\c.sl i n=some (.slice (some ⟨b,o,none⟩) len cap):=by
 cases hr with
 |data h=>cases h
 |optr _ _ _ _ _ b o len cap h=>exact⟨b,o,len,cap,rfl,h⟩
theorem ja1(hs:HSim c h w){i n e sz r:Nat}{rows:List (List AV)}(hi:h[i]?=some (.uarr e sz rows))(hn:rows.length=n){b o len cap:Nat}(hv:c.sl i n=some (.slice (some ⟨b,o,none⟩) len cap))(hr:r<rows.length) :
  o=0/\∀(j:Nat) (x:AV),(rows.getD r [])[j]?=some x->∃u,w.cell? ⟨b,r * sz+j,none⟩=some u/\DRel c.D x u:=by
 subst hn;obtain⟨v',vs,h1,_,_,h2,_,h4,h5⟩:=hs.obj i _ hi;rw[hv]at h1;cases h1;have hg:(Value.slice (some ⟨b,o,none⟩) len cap).ownBlock=some b:=rfl;constructor
 .rcases h2.2 with⟨e1,_⟩|⟨g,cp,cur,e1,_⟩
  .cases e1
  .grind
 .intro j x hx;have my:rows[r]?=some (rows.getD r []):=af;obtain⟨u,hu,hd⟩:=h5 r j _ x my hx;have:=h2.cells hg _ u hu;rw[vg,cz]at this;exact⟨u,this,hd⟩
theorem xws(hs:HSim c h w){i n e sz r:Nat}{rows:List (List AV)}(hi:h[i]?=some (.oarr e sz rows))(hn:rows.length=n){b o len cap:Nat}(hv:c.sl i n=some (.slice (some ⟨b,o,none⟩) len cap))(hr:r<rows.length) :
  o=0/\∀(j:Nat) (x:AV),(rows.getD r [])[j]?=some x->∃u,w.cell? ⟨b,r * sz+j,none⟩=some u/\Rel c x u/\u.oneCell'=true:=by
 subst hn;obtain⟨v',vs,h1,_,_,h2,_,h4,h5⟩:=hs.obj i _ hi;rw[hv]at h1;cases h1;have hg:(Value.slice (some ⟨b,o,none⟩) len cap).ownBlock=some b:=rfl;constructor
 .rcases h2.2 with⟨e1,_⟩|⟨g,cp,cur,e1,_⟩
  .cases e1
  .grind
 .intro j x hx;have my:rows[r]?=some (rows.getD r []):=af;obtain⟨u,hu,hd⟩:=h5 r j _ x my hx;have:=h2.cells hg _ u hu;rw[vg,cz]at this;exact⟨u,this,hd⟩
theorem xsr{t:TypeId}{a:AV}{u:Value}(hs:HSim c h w)(hr:Rel c a u)(iu:(quj P t a h).side) :
  ∃v,(Instr.loadAt t u).run P w=.ok v w/\Rel c (quj P t a h).val v:=by
 unfold quj at iu|-;cases a with
 |ptr i off =>
  simp only at iu|-;cases hi:h[i]? with
  |none=>simp[hi,SV.no]at iu
  |some ob =>
   cases ob with
   |cells xs =>
    simp only[hi]at iu|-;obtain⟨b,rfl,hb,hc⟩:=jg8 hs hr hi;obtain⟨v,hv,jr⟩:=qtn (P:=P) (t:=t) iu.2 hc iu.1;exact⟨v,by simp[Instr.loadAt,Instr.sureAddr,hv],jr⟩
   |_=>simp[hi,SV.no]at iu
 |eptr cells =>
  simp only at iu|-;obtain⟨b,o,rfl,hc⟩:=xd6 hr;obtain⟨v,hv,jr⟩:=qtn (P:=P) (w:=w) (t:=t) (c:=c) (b:=b) (o:=o) iu.2 (λj x hx=>by
   obtain⟨u,hu,hd⟩:=hc j x hx;exact⟨u,hs.data _ _ _ hu,.data hd,hd.one⟩) iu.1
  exact⟨v,by simp[Instr.loadAt,Instr.sureAddr,hv],jr⟩
 |optr i n sz r q =>
  simp only at iu|-;cases hi:h[i]? with
  |none=>simp[hi,SV.no]at iu
  |some ob =>
   cases ob with
   |uarr e ky rows =>
    simp only[hi]at iu|-;obtain⟨hn,rfl,jf,hl,hk⟩:=iu;obtain⟨b,o,len,cap,rfl,hv⟩:=qw4 hr;obtain⟨rfl,hc⟩:=ja1 hs hi hn hv jf;obtain⟨v,v6,jr⟩:=qtn (P:=P) (w:=w) (t:=t) (c:=c) (b:=b) (o:=0+(r * ky+q)) hk (λj x hx=>by
     rw[ew]at hx;obtain⟨u,hu,hd⟩:=hc _ x hx;exact⟨u,qiq,.data hd,hd.one⟩) hl
    exact⟨v,qf9,jr⟩
   |oarr e ky rows =>
    simp only[hi]at iu|-;obtain⟨hn,rfl,jf,hl,hk⟩:=iu;obtain⟨b,o,len,cap,rfl,hv⟩:=qw4 hr;obtain⟨rfl,hc⟩:=xws hs hi hn hv jf;obtain⟨v,v6,jr⟩:=qtn (P:=P) (w:=w) (t:=t) (c:=c) (b:=b) (o:=0+(r * ky+q)) hk (λj x hx=>by
     rw[ew]at hx;obtain⟨u,hu,hd⟩:=hc _ x hx;exact⟨u,qiq,hd⟩) hl
    exact⟨v,qf9,jr⟩
   |_=>simp[hi,SV.no]at iu
 |_=>exact iu.elim
theorem ji7{s f o n:Nat}(hf:qzh P s f=some (o,n)):∃l fd i,P.underlying s=some (.struct l)/\l[f]?=some fd/\fd.offset=o/\P.info? fd.type=some i/\i.size=n/\0<n:=by
 unfold qzh at hf;split at hf
 .rename_i fs hk;obtain⟨i,d,z,h1,h2,h3,h4,h5,_⟩:=li hk ac;obtain⟨l,rfl,iz,rfl⟩:=xrl h4;split at hf
  .rename_i o' n' hl;split at hf
   .cases hf
   .rename_i hn;cases hf;simp only[di,db,Prod.mk.injEq]at hl;obtain⟨fd,hfd,rfl,rfl⟩:=hl;obtain⟨i',ke⟩:=iz fd (cv hfd);refine⟨l,fd,i',h2,by simpa using hfd,rfl,ke,by simp[Program.cellsOf,ke],aa⟩
  .cases hf
 .cases hf
theorem jnn{s f o n b off:Nat}(hf:qzh P s f=some (o,n)):(Instr.fieldAt s (.pointer (some ⟨b,off,none⟩)) f).run P w=.ok (.pointer (some ⟨b,off+o,none⟩)) w:=by
 obtain⟨l,fd,i,h1,h2,rfl,h3,rfl,h4⟩:=ji7 hf;have it:¬i.size=0:=aa;simp[Instr.fieldAt,ox h1,h2,Instr.sureAddr,fieldPlace,xl h3,it,vg]
theorem xxi{T:TypeId}{x i:AV}{u v:Value}(hs:HSim c h w)(hx:Rel c x u)(hi:Rel c i v)(iu:(qd9 P T x i h).side) :
  ∃r,(Instr.indexAt T u v).run P w=.ok r w/\Rel c (qd9 P T x i h).val r:=by
 unfold qd9 at iu|-;split at iu
 .rename_i e sz rows k n hk;obtain⟨h0,il,my,jx⟩:=iu;obtain rfl:=hi.val_inv;obtain⟨i',d,z,h1,h2,h3,h4,h5,_⟩:=li hk ac;obtain⟨rfl,ie,ln,rfl⟩:=vh h4;have hd:=hx.slice_inv;cases hd with
  |nil=>simp at il
  |empty a=>simp at il
  |slice rows b off cap sz g ut hB hc hD hr =>
   have hrow':rows[n.toNat]?=some (rows.getD n.toNat []):=af;have hszeq:sz=ie.size:=af;subst hszeq;have qqc:(0<=n/\n<(rows.length:Int)):=⟨h0,aa⟩
   refine⟨.pointer (some ⟨b,off+n.toNat * ie.size,none⟩),?_,xc3 λj x hx=>?_⟩
   .simp[Instr.indexAt,asIntOf,ox h2,qqc,xl ln,vg]
   .grind
 .rename_i len e sz o off k n hk;obtain⟨h0,il,jx⟩:=iu;obtain rfl:=hi.val_inv;obtain⟨i',d,z,h1,h2,h3,h4,h5,_⟩:=li hk ac;obtain⟨rfl,ie,ln,rfl⟩:=qx9 h4;obtain⟨b,rfl,hb⟩:=qul hx;have qqc:(0<=n/\n<(len:Int)):=⟨h0,aa⟩
  exact⟨.pointer (some ⟨b,off+n.toNat * ie.size,none⟩),qfe,.ptr _ _ _ hb⟩
 .rename_i len e sz cells k n hk;obtain⟨h0,il,jx⟩:=iu;obtain rfl:=hi.val_inv;obtain⟨i',d,z,h1,h2,h3,h4,h5,_⟩:=li hk ac;obtain⟨rfl,ie,ln,rfl⟩:=qx9 h4;obtain⟨b,off,rfl,hc⟩:=xd6 hx;have qqc:(0<=n/\n<(len:Int)):=⟨h0,aa⟩
  refine⟨.pointer (some ⟨b,off+n.toNat * ie.size,none⟩),qfe,xc3 λj x hx=>?_⟩;rw[ew]at hx;obtain⟨u,hu,hd⟩:=hc _ x hx;exact⟨u,by rw[Nat.add_assoc];exact hu,hd⟩
 .rename_i len e sz o m ky r q k n hk;obtain⟨h0,il,jx⟩:=iu;obtain rfl:=hi.val_inv;obtain⟨i',d,z,h1,h2,h3,h4,h5,_⟩:=li hk ac;obtain⟨rfl,ie,ln,rfl⟩:=qx9 h4;obtain⟨b,o',len',cap,rfl,hv⟩:=qw4 hx;have qqc:(0<=n/\n<(len:Int)):=⟨h0,aa⟩
  refine⟨.pointer (some ⟨b,o'+(r * ky+q)+n.toNat * ie.size,none⟩),qfe,?_⟩;have:=Rel.optr (c:=c) o m ky r (q+n.toNat * ie.size) b o' len' cap hv;rw[show o'+(r * ky+q)+n.toNat * ie.size=o'+(r * ky+(q+n.toNat * ie.size))by omega];exact this
 .rename_i e sz o m k n hk;split at iu
  .rename_i e' ky rows ho;simp only[ho];obtain⟨hm,rfl,h0,il,jx⟩:=iu;obtain rfl:=hi.val_inv;obtain⟨i',d,z,h1,h2,h3,h4,h5,_⟩:=li hk ac;obtain⟨rfl,ie,ln,rfl⟩:=vh h4;obtain⟨hv,vs,m8,_⟩:=qwx hs ho hm hx;rcases m8.2 with⟨rfl,hz⟩|⟨g,cap,cur,rfl,_⟩
   .omega
   .have qqc:(0<=n/\n<(m:Int)):=⟨h0,aa⟩
    refine⟨.pointer (some ⟨g,0+n.toNat * ie.size,none⟩),qhs,?_⟩;exact .optr o m ie.size n.toNat 0 g 0 m cap hv
  .rename_i e' ky rows ho;simp only[ho];obtain⟨hm,rfl,h0,il,jx⟩:=iu;obtain rfl:=hi.val_inv;obtain⟨i',d,z,h1,h2,h3,h4,h5,_⟩:=li hk ac;obtain⟨rfl,ie,ln,rfl⟩:=vh h4;obtain⟨hv,vs,m8,_⟩:=xfv hs ho hm hx;rcases m8.2 with⟨rfl,hz⟩|⟨g,cap,cur,rfl,_⟩
   .omega
   .have qqc:(0<=n/\n<(m:Int)):=⟨h0,aa⟩
    refine⟨.pointer (some ⟨g,0+n.toNat * ie.size,none⟩),qhs,?_⟩;exact .optr o m ie.size n.toNat 0 g 0 m cap hv
  .exact iu.elim
 .exact iu.elim
theorem jj8{T:TypeId}{x i:AV}{u v:Value}(hx:Rel c x u)(hi:Rel c i v)(iu:(xb0 P T x i).side) :
  ∃r,(Instr.index T u v).run P w=.ok r w/\Rel c (xb0 P T x i).val r:=by
 unfold xb0 at iu|-;split at iu
 .rename_i s k n hk;obtain⟨h0,il⟩:=iu;obtain rfl:=hi.val_inv;obtain rfl:=hx.val_inv;obtain⟨i',d,z,h1,h2,h3,h4,h5,_⟩:=li hk ac;obtain rfl:=qza h4;have hb:(if 0<=n then s[n.toNat]? else none)=some (xbc s n):=by
   have h1:s.data.size=s.size:=rfl;have qu0:n.toNat<s.data.size:=aa;rw[if_pos h0];show(if h:n.toNat<s.size then some s[n.toNat]else none)=_;rw[dif_pos il];congr 1;show s.data[n.toNat]=_;simp[xbc,List.getD,fi qu0]
  exact⟨_,by simp[Instr.index,asIntOf,ox h2,hb],.val _⟩
 .rename_i len e sz cs k n hk;obtain⟨h0,il,ki,rfl,ho,hag⟩:=iu;obtain rfl:=hi.val_inv;obtain⟨i',d,z,h1,h2,h3,h4,h5,_⟩:=li hk ac;obtain⟨rfl,ie,ln,jx⟩:=qx9 h4;obtain⟨i2,d2,z2,g1,g2,g3,g4,g5,_⟩:=li rfl ho;have ha:=xkw g2 af w;rw[g4,hag]at ha;have qqc:(0<=n/\n<(len:Int)):=⟨h0,aa⟩
  cases hx with
  |data hd=>cases hd
  |agg _ vs hl nj hr =>
   have hlv:n.toNat<vs.size:=aa;refine⟨vs[n.toNat],?_,hr n.toNat _ _ af (by simp[hlv])⟩;simp[Instr.index,asIntOf,ox h2,qqc,xl ln,jx,part,ha,hlv]
 .exact iu.elim
theorem jdf{T:TypeId}{x:AV}{u:Value}(hs:HSim c h w)(hx:Rel c x u)(iu:(qun P T x h).side)(ty:TypeId) :
  ∃r,(Builtin.len_ #[T] ty #[u]).run P w=.ok r w/\Rel c (qun P T x h).val r:=by
 have jm:(Builtin.len_ #[T] ty #[u]).run P w=(do
   match <-underlying T,u with
   | .string,.string s=>pure (goInt s.size)
   | .array n _,_=>pure (goInt n)
   | .pointer arr,_ =>
    let .array n _ <-underlying arr|stuck "len: pointer to array expected"
    pure (goInt n)
   | .slice _,.slice _ n _=>pure (goInt n)
   | .map _ _,.map none| .chan _ _,.chan none=>pure (goInt 0)
   | .map _ _,.map (some r) =>
    let .map entries _ <-getObj r|stuck "len: map expected"
    pure (goInt entries.size)
   | .chan _ _,.chan (some r) =>
    let .chan _ buf _ _ _ timer <-getObj r|stuck "len: channel expected"
    pure (goInt (if timer then 0 else buf.size))
   |_,_=>stuck "len: string, array, pointer to array, slice, map or channel expected":Sem Value).run P w:=by
  rfl
 rw[jm];unfold qun at iu|-;split at iu
 .rename_i e sz rows hk;obtain⟨i',d,z,h1,h2,h3,h4,h5,_⟩:=li hk ac;obtain⟨rfl,ie,ln,rfl⟩:=vh h4;have hd:=hx.slice_inv;cases hd with
  |nil=>exact⟨.int .i64 0,qe2,.val _⟩
  |empty a=>exact⟨.int .i64 0,qe2,.val _⟩
  |slice rows b off cap sz g ut hB hc hD hr=>exact⟨.int .i64 rows.length,qe2,.val _⟩
 .rename_i e sz hk;obtain⟨i',d,z,h1,h2,h3,h4,h5,_⟩:=li hk ac;obtain⟨rfl,ie,ln,rfl⟩:=vh h4;cases hx with
  |data h=>cases h
  |nils=>exact⟨.int .i64 0,qe2,.val _⟩
 .rename_i e sz o m hk;split at iu
  .rename_i e' ky rows ho;simp only[ho];obtain⟨i',d,z,h1,h2,h3,h4,h5,_⟩:=li hk ac;obtain⟨rfl,ie,ln,rfl⟩:=vh h4;obtain⟨hv,vs,m8,_⟩:=qwx hs ho iu hx;have hm:rows.length=m:=iu;rcases m8.2 with⟨rfl,hz⟩|⟨g,cap,cur,rfl,_⟩
   .exact⟨.int .i64 0,qe2,by rw[hm,hz];exact .val _⟩
   .exact⟨.int .i64 m,qe2,by rw[hm];exact .val _⟩
  .rename_i e' ky rows ho;simp only[ho];obtain⟨i',d,z,h1,h2,h3,h4,h5,_⟩:=li hk ac;obtain⟨rfl,ie,ln,rfl⟩:=vh h4;obtain⟨hv,vs,m8,_⟩:=xfv hs ho iu hx;have hm:rows.length=m:=iu;rcases m8.2 with⟨rfl,hz⟩|⟨g,cap,cur,rfl,_⟩
   .exact⟨.int .i64 0,qe2,by rw[hm,hz];exact .val _⟩
   .exact⟨.int .i64 m,qe2,by rw[hm];exact .val _⟩
  .exact iu.elim
 .rename_i s hk;obtain⟨i',d,z,h1,h2,h3,h4,h5,_⟩:=li hk ac;obtain rfl:=qza h4;obtain rfl:=hx.val_inv;exact⟨.int .i64 s.size,qe2,.val _⟩
 .rename_i y n e sz hk;obtain⟨i',d,z,h1,h2,h3,h4,h5,_⟩:=li hk ac;obtain⟨rfl,ie,ln,rfl⟩:=qx9 h4;exact⟨.int .i64 n,qe2,.val _⟩
 .rename_i k e i hk;split at iu
  .rename_i es hes;simp only[hes];obtain⟨b,rfl,hb⟩:=xej hx;obtain⟨b',kj,clock,g1,g2,g3,_⟩:=hs.obj i _ hes;rw[hb]at g1;cases g1;have hT:=qzq hk;exact⟨.int .i64 es.length,by simp[run_underlying hT,Go.MapKept.run_getObj_map g2,goInt,g3],.val _⟩
  .exact iu.elim
 .exact iu.elim
end
end Go.Abs
