/- Part 3 of a proof. -/
import Derived.DeepKeys
import Derived.MapKept
import Derived.Test.YtolejdhnnchfpaaGreatDoorQ02
set_option linter.all false
namespace Go.Abs
def oa:List TK->List Value->Prop
 | [],[]=>True
 | .bool::ks,.bool _::xs=>oa ks xs
 | .int k::ks,.int k' _::xs=>k'=k/\oa ks xs
 | .string::ks,.string _::xs=>oa ks xs
 |_,_=>False
def yc:List Value->List Value->Bool
 | [],[]=>true
 | .bool a::xs,.bool b::ys=>decide (a=b)&&yc xs ys
 | .int _ a::xs,.int _ b::ys=>decide (a=b)&&yc xs ys
 | .string a::xs,.string b::ys=>decide (a=b)&&yc xs ys
 |_,_=>false
def mkV(P:Program)(t:TypeId)(cs:List Value):Value :=
 match P.underlying t with
 |some (.struct _)=>.agg cs.toArray
 |_=>cs.headD undef
theorem qs3:∀{ks:List TK} {xs:List Value},oa ks xs->xs.length=ks.length
 | [],[],_=>rfl
 | [],_::_,h=>by simp[oa]at h
 |k::ks,[],h=>by cases k<;>simp[oa]at h
 |k::ks,x::xs,h=>by
  cases k<;>cases x<;>simp only[oa]at h<;>first|(exact h.elim)|skip
  .simp[qs3 h]
  .simp[qs3 h.2]
  .simp[qs3 h]
theorem xb3:∀{ks ks':List TK} {l:List Value},oa (ks++ks') l->oa ks (l.take ks.length)/\oa ks' (l.drop ks.length)
 | [],ks',l,h=>⟨by simp[oa],qf7⟩
 |k::ks,ks',[],h=>by cases k<;>simp[oa]at h
 |k::ks,ks',x::xs,h=>by
  cases k<;>cases x<;>simp only[qix,oa]at h<;>first|(exact h.elim)|skip
  .simpa[oa]using xb3 h
  .have:=xb3 h.2;simpa[oa,h.1]using this
  .simpa[oa]using xb3 h
theorem xfh:∀{ks:List TK} {a b c d:List Value},oa ks a->oa ks b->yc (a++c) (b++d)=(yc a b&&yc c d)
 | [],a,b,c,d,ha,hb=>by
  have h1:=qs3 ha;have h2:=qs3 hb;simp at h1 h2;subst h1;subst h2;simp[yc]
 |k::ks,[],b,c,d,ha,hb=>by cases k<;>simp[oa]at ha
 |k::ks,x::a,[],c,d,ha,hb=>by cases k<;>simp[oa]at hb
 |k::ks,x::a,y::b,c,d,ha,hb=>by
  cases k<;>cases x<;>simp only[oa]at ha<;>first|(exact ha.elim)|skip
  all_goals cases y<;>simp only[oa]at hb<;>first|(exact hb.elim)|skip
  .simp[yc,xfh (c:=c) (d:=d) ha hb,gh]
  .simp[yc,xfh (c:=c) (d:=d) ha.2 hb.2,gh]
  .simp[yc,xfh (c:=c) (d:=d) ha hb,gh]
section
variable {P:Program} {w:World}
def xqo(P:Program)(w:World)(n:Nat)(t:TypeId)(ks:List TK):Prop :=
 ∀xs ys:List Value,oa ks xs->oa ks ys->(Op.equalIn n t (mkV P t xs) (mkV P t ys)).run P w=.ok (yc xs ys) w
theorem xn7{d:Nat}{t:TypeId}{ks:List TK}(h:qm1 P d t=some ks):∃kd,P.underlying t=some kd:=by
 cases d with
 |zero=>simp[qm1]at h
 |succ d =>
  unfold qm1 at h;split at h<;>first|exact⟨_,by assumption⟩|cases h
theorem xma{d:Nat}{t:TypeId}{ks:List TK}(h:qm1 P d t=some ks)(hl:ks.length=P.cellsOf t){xs:Array Value}{off:Nat}(hf:oa ks ((xs.toList.drop off).take ks.length)) :
  (part t xs off).run P w=.ok (mkV P t ((xs.toList.drop off).take ks.length)) w:=by
 obtain⟨kd,hu⟩:=xn7 h;obtain⟨i,hi⟩:=info_of_underlying hu;have one:∀k,ks=[k]->(∀fs,kd≠.struct fs)->(∀n e,kd≠.array n e)->(part t xs off).run P w=.ok (mkV P t ((xs.toList.drop off).take ks.length)) w:=by
  intro k hk hns hna;subst hk;have jm:=qs3 hf;have hoff:off<xs.size:=af;have hx:xs[off]?=some xs[off]:=ac;have hm:mkV P t ((xs.toList.drop off).take 1)=xs[off]:=by grind[qi5,mkV]
  simp only[fx,hm];have hagg:(isAgg t).run P w=.ok false w:=by
   simp only[isAgg,c8,run_underlying hu,c9];cases kd<;>first|(exact(hns _ rfl).elim)|(exact(hna _ _ rfl).elim)|rfl
  simp only[part,c8,hagg,c9,qje,if_false,hx,dm]
 cases d with
 |zero=>simp[qm1]at h
 |succ d =>
  unfold qm1 at h;rw[hu]at h;split at h
  .grind
  .grind
  .grind
  .rename_i fs hk;cases hk;have hagg:(isAgg t).run P w=.ok true w:=by
    simp only[isAgg,c8,run_underlying hu,c9];rfl
   have hm:mkV P t ((xs.toList.drop off).take ks.length)=.agg (xs.extract off (off+P.cellsOf t)):=by
    unfold mkV;rw[hu];simp only[Value.agg.injEq];apply gj;rw[Array.toList_extract,hl];simp[List.extract]
   rw[hm];simp only[part,c8,hagg,c9,if_true,run_sizeOf w hi,dm]
  .cases h
theorem xt6{n d:Nat}(IH:∀t ks,qm1 P d t=some ks->xqo P w n t ks):∀(fs:List Field) (off:Nat) (ks:List TK),qzb (qm1 P d) P off fs=some ks ->
  ∀xs ys:Array Value,oa ks (xs.toList.drop off)->oa ks (ys.toList.drop off)->(Op.eqFields n xs ys fs).run P w=.ok (yc (xs.toList.drop off) (ys.toList.drop off)) w
 | [],off,ks,h,xs,ys,hx,hy=>by
  simp only[qzb,eb]at h;subst h;have h1:=qs3 hx;have h2:=qs3 hy;have e1:xs.toList.drop off=[]:=qjp.1 aa;have e2:ys.toList.drop off=[]:=qjp.1 aa;rw[e1,e2];simp[Op.eqFields,yc]
 |f::fs,off,ks,h,xs,ys,hx,hy=>by
  simp only[qzb]at h;split at h
  .rename_i hn;obtain⟨wb,rfl⟩:=hn;split at h
   .rename_i k1 hk1;split at h
    .rename_i jm;simp only[db]at h;obtain⟨k2,pj,rfl⟩:=h;obtain⟨x1,x2⟩:=xb3 hx;obtain⟨y1,y2⟩:=xb3 hy;rw[List.drop_drop]at x2 y2;have p1:=xma (w:=w) hk1 jm x1;have p2:=xma (w:=w) hk1 jm y1;have p3:=IH f.type k1 hk1 _ _ x1 y1;have p4:=xt6 IH fs (f.offset+k1.length) k2 pj xs ys x2 y2;have qw3:∀zs:Array Value,zs.toList.drop f.offset=(zs.toList.drop f.offset).take k1.length++zs.toList.drop (f.offset+k1.length):=λzs=>by
      rw[<-List.drop_drop,gn]
     rw[qw3 xs,qw3 ys,xfh x1 y1];simp only[Op.eqFields,wb,ne_eq,not_false_eq_true,if_true,c8,p1,p2,p3,c9];cases yc ((xs.toList.drop f.offset).take k1.length) ((ys.toList.drop f.offset).take k1.length)with
     |false=>simp
     |true=>simpa using p4
    .cases h
   .cases h
  .cases h
theorem xm1:∀(d:Nat) (n:Nat) (t:TypeId) (ks:List TK),qm1 P d t=some ks->xqo P w (n+d) t ks
 | 0,_,_,_,h=>by simp[qm1]at h
 |d+1,n,t,ks,h=>by
  intro xs ys hx hy;unfold qm1 at h;obtain⟨kd,hu⟩:∃kd,P.underlying t=some kd:=af;rw[hu]at h;have one:∀k,ks=[k]->∃x y,xs=[x]/\ys=[y]:=λk hk=>by
   subst hk;exact⟨_,_,(List.length_eq_one_iff.1 (qs3 hx)).choose_spec,(List.length_eq_one_iff.1 (qs3 hy)).choose_spec⟩
  split at h
  .rename_i hk;cases hk;cases h;obtain⟨x,y,rfl,rfl⟩:=one _ rfl;cases x<;>simp only[oa]at hx;cases y<;>simp only[oa]at hy;rename_i a b;simp only[mkV,hu,List.headD_cons,yc,fa];rw[show n+(d+1)=(n+d)+1 from rfl,run_equalIn_bool w (n+d) t a b hu];cases a<;>cases b<;>rfl
  .rename_i k hk;cases hk;cases h;obtain⟨x,y,rfl,rfl⟩:=one _ rfl;cases x<;>simp only[oa]at hx;cases y<;>simp only[oa]at hy;rename_i k1 a k2 b;obtain rfl:=hx.1;obtain rfl:=hy.1;simp only[mkV,hu,List.headD_cons,yc,fa];rw[show n+(d+1)=(n+d)+1 from rfl,run_equalIn_int w (n+d) t _ _ a b hu];rfl
  .rename_i hk;cases hk;cases h;obtain⟨x,y,rfl,rfl⟩:=one _ rfl;cases x<;>simp only[oa]at hx;cases y<;>simp only[oa]at hy;rename_i a b;simp only[mkV,hu,List.headD_cons,yc,fa];rw[show n+(d+1)=(n+d)+1 from rfl,run_equalIn_string w (n+d) t a b hu];congr 1;rw[ByteArray.toList_eq,ByteArray.toList_eq];by_cases hab:a=b
   .grind
   .have:a.data.toList≠b.data.toList:=λe=>hab (by cases a;cases b;simp at e;simp[e]);rw[beq_eq_false_iff_ne.2 this,decide_eq_false hab]
  .rename_i fs hk;cases hk;split at h
   .cases h
   .rename_i kn;have hfs:P.fieldsOf t=fs:=by simp[Program.fieldsOf,hu]
    have:=xt6 (n:=n+d) (λt ks h=>xm1 d n t ks h) fs.toList 0 ks h xs.toArray ys.toArray af af;simp only[mkV,hu];rw[show n+(d+1)=(n+d)+1 from rfl,run_equalIn_struct w (n+d) t _ _ af af,hfs,this];simp
  .cases h
end
end Go.Abs
namespace Go.Abs
open Go.MapKept
theorem xft:∀{es:List (AV×AV)} {l:List (ByteArray×AV)},strKeys es=some l->es=ra l
 | [],l,h=>by simp[strKeys]at h;subst h;rfl
 |(k,v)::es,l,h=>by
  unfold strKeys at h;split at h
  .grind
  .rename_i s' v' l' h1;cases h1;simp only[db]at h;obtain⟨l2,h2,rfl⟩:=h;rw[xft h2];rfl
  .cases h
theorem xm3{c:Ctx}{x v:Value}(h:Rel c (.val x) v):v=x:=by
 cases h with
 |data h=>cases h;rfl
 |val=>rfl
theorem qrj{c:Ctx}{x v:Value}(h:Rel c (.val x) v):qkt x=true:=by
 cases h with
 |data h=>cases h with|val _ _ hs=>exact hs
 |val _ hs=>exact hs
def quk(c:Ctx)(l:List (ByteArray×AV))(kj:List MapEntry):Prop :=
 kj.length=l.length/\∀(j:Nat) (p:ByteArray×AV) (ce:MapEntry),l[j]?=some p->kj[j]?=some ce->(ce.key=.string p.1/\qkt (.string p.1)=true)/\Rel c p.2 ce.val
def y4:List (ByteArray×AV)->ByteArray->Option Nat
 | [],_=>none
 |p::l,s=>if p.1=s then some 0 else(y4 l s).map (· + 1)
theorem xr1:∀{l:List (ByteArray×AV)} {s:ByteArray} {j:Nat},y4 l s=some j->j<l.length
 | [],_,_,h=>by cases h
 |p::l,s,j,h=>by
  simp only[y4]at h;split at h
  .grind
  .simp only[db]at h;obtain⟨j',h,rfl⟩:=h;have:=xr1 h;simpa using this
theorem xi3:∀{l:List (ByteArray×AV)} {s:ByteArray} {j:Nat},y4 l s=some j->∃v,l[j]?=some (s,v)
 | [],_,_,h=>by cases h
 |p::l,s,j,h=>by
  simp only[y4]at h;split at h
  .rename_i hp;cases h;exact⟨p.2,by simp[<-hp]⟩
  .simp only[db]at h;obtain⟨j',h,rfl⟩:=h;simpa using xi3 h
theorem xqp:∀(l:List (ByteArray×AV)) (s:ByteArray),qsw l s=(y4 l s).bind λj=>(l[j]?).map (·.2)
 | [],_=>rfl
 |p::l,s=>by
  simp only[qsw,y4];split
  .simp
  .rw[xqp l s];cases y4 l s<;>simp
theorem xok:∀(l:List (ByteArray×AV)) (s:ByteArray) (v:AV),qsi l s v=match y4 l s with|some j=>l.set j (s,v)|none=>l++[(s,v)]
 | [],_,_=>rfl
 |p::l,s,v=>by
  simp only[qsi,y4];split
  .rfl
  .rw[xok l s v];cases y4 l s<;>simp
theorem xnv:∀(l:List (ByteArray×AV)) (s:ByteArray),quw l s=match y4 l s with|some j=>l.eraseIdx j|none=>l
 | [],_=>rfl
 |p::l,s=>by
  simp only[quw,y4];split
  .rfl
  .rw[xnv l s];cases y4 l s<;>simp
theorem xfa{c:Ctx}(s:ByteArray):∀(l:List (ByteArray×AV)) (kj:List MapEntry) (i:Nat),quk c l kj ->
  Instr.findNow .string (.string s) kj i=some ((y4 l s).bind λj=>(kj[j]?).map λe=>(i+j,e.val))
 | [],kj,i,h=>by
  have:=qjp.1 h.1;subst this;rfl
 |p::l,[],i,h=>by have:=h.1;simp at this
 |p::l,ce::kj,i,h=>by
  have h0:=(h.2 0 p ce rfl rfl).1.1;have ht:quk c l kj:=⟨by simpa using h.1,λj p ce hp hc=>h.2 (j+1) p ce af af⟩
  simp only[Instr.findNow,h0,Instr.sameNow,y4];by_cases hs:p.1=s
  .rw[if_pos hs];have:(s == p.1)=true:=by rw[hs];exact(bytes_beq _ _).2 rfl
   simp[this]
  .rw[if_neg hs];have:(s == p.1)=false:=by
    cases hb:s == p.1 with
    |false=>rfl
    |true=>exact(hs ((bytes_beq _ _).1 hb).symm).elim
   simp only[this];rw[xfa s l kj (i+1) ht];cases y4 l s with
   |none=>rfl
   |some j =>
    simp only[fp,e8,qi6];congr 2;funext e;rw[show i+1+j=i+(j+1)from by omega]
section
variable {P:Program} {w:World}
theorem xht{c:Ctx}{l:List (ByteArray×AV)}{kj:Array MapEntry}(hl:kj.size=(ra l).length)(h:∀(j:Nat) (k x:AV) (ce:MapEntry),(ra l)[j]?=some (k,x)->kj[j]?=some ce->Rel c k ce.key/\Rel c x ce.val):quk c l kj.toList :=
 ⟨by simpa[ra]using hl,λj p ce hp hc=>by
  have:=h j (.val (.string p.1)) p.2 ce (by simp[ra,hp]) af;exact⟨⟨xm3 this.1,qrj this.1⟩,this.2⟩⟩
theorem jfl{c:Ctx}{l:List (ByteArray×AV)}{kj:Array MapEntry}(h:quk c l kj.toList):kj.size=(ra l).length/\∀(j:Nat) (k x:AV) (ce:MapEntry),(ra l)[j]?=some (k,x)->kj[j]?=some ce->Rel c k ce.key/\Rel c x ce.val :=
 ⟨by simpa[ra]using h.1,λj k x ce hk hc=>by
  simp only[ra,di,db,Prod.mk.injEq]at hk;obtain⟨p,hp,rfl,rfl⟩:=hk;obtain⟨h1,h2⟩:=h.2 j p ce hp af;exact⟨by rw[h1.1];exact .val _ h1.2,h2⟩⟩
theorem xg6{c:Ctx}{e:TypeId}{z:AV}(h:qtv P e=some z):∃v,(zeroValue e).run P w=.ok v w/\Rel c z v:=by
 unfold qtv at h;split at h
 .rename_i i hi;have jk:∀v,i.zero=some v->(zeroValue e).run P w=.ok v w:=λv hv=>by
   simp only[zeroValue,c8,run_typeInfo w hi,c9,hv];simp
  split at h
  .rename_i vs hz;split at h
   .rename_i nj;cases h;refine⟨_,jk _ hz,.agg _ _ ac (λj v hv=>dr.1 nj v af) λj x v hx hv=>?_⟩;simp only[di,db]at hx;obtain⟨u,hu,rfl⟩:=hx;have:u=v:=af;subst this;exact xb8 c _
   .cases h
  .rename_i z' _ hz;cases h;exact⟨_,jk _ hz,xb8 c _⟩
  .cases h
 .cases h
theorem qzq{T k e:TypeId}(h:im P T=.map k e):P.underlying T=some (.map k e):=by
 unfold im at h;cases ht:ti P T with
 |none=>rw[ht]at h;cases h
 |some x =>
  rw[ht]at h;obtain⟨i,d,z,_,h4,_,rfl,_⟩:=xdx ht;rw[h4];simp only at h;cases d<;>simp only[qd]at h<;>first|(split at h<;>cases h)|(cases h;done)|skip
  cases h;rfl
theorem xcl{T:TypeId}(h:im P T=.string):P.underlying T=some .string:=by
 unfold im at h;cases ht:ti P T with
 |none=>rw[ht]at h;cases h
 |some x =>
  rw[ht]at h;obtain⟨i,d,z,_,h4,_,rfl,_⟩:=xdx ht;rw[h4];simp only at h;cases d<;>simp only[qd]at h<;>first|rfl|(split at h<;>cases h)|cases h
theorem xej{c:Ctx}{i:Nat}{v:Value}(h:Rel c (.mapr i) v):∃b,v=.map (some b)/\c.blk i=some b:=by
 cases h with
 |data h=>cases h
 |mapr i b h=>exact⟨b,rfl,h⟩
theorem qwu(s:ByteArray):IsKey .string (.string s):=by simp[IsKey]
theorem jj2{c:Ctx}{h:g9}(hs:HSim c h w){T:TypeId}{x i:AV}{u v:Value}(hx:Rel c x u)(hi:Rel c i v){ok:Bool}(iu:(qub P T x i ok h).side) :
  ∃r,(Instr.lookup T u v ok).run P w=.ok r w/\Rel c (qub P T x i ok h).val r:=by
 unfold qub at iu|-;split at iu
 .rename_i k e o s hk;split at iu
  .rename_i es hes;split at iu
   .rename_i l z hl hz;simp only[hes,hl,hz];obtain rfl:=xft hl;obtain⟨b,rfl,hb⟩:=xej hx;obtain rfl:=xm3 hi;obtain⟨b',kj,clock,g1,g2,g3,g4,g5⟩:=hs.obj o _ hes;rw[hb]at g1;cases g1;have hE:=xht g3 g4;have hT:=qzq hk;have hK:=xcl iu;obtain⟨zv,hzr,hzrel⟩:=xg6 (P:=P) (w:=w) (c:=c) hz;have qn2:=run_findKey (P:=P) (w:=w) (kt:=k) hK (xfa s l kj.toList 0 hE);have jk:∃rv:Value×Bool,(Instr.lookup T (.map (some b)) (.string s) ok).run P w=.ok (if ok then .tuple #[rv.1,.bool rv.2]else rv.1) w/\Rel c ((qsw l s).getD z) rv.1/\rv.2=(qsw l s).isSome:=by
     rw[xqp];cases hj:y4 l s with
     |none =>
      rw[hj]at qn2;refine⟨(zv,false),?_,hzrel,rfl⟩;simp only[Instr.lookup,c8,run_underlying hT,c9,run_getObj_map g2,dm,run_checkKey hK (qwu s),qn2,Option.bind_none,hzr]
     |some j =>
      rw[hj]at qn2;obtain⟨pv,hp⟩:=xi3 hj;have il:j<kj.toList.length:=by rw[hE.1];exact xr1 hj
      have hce:kj.toList[j]?=some kj.toList[j]:=bc;refine⟨(kj.toList[j].val,true),?_,?_,by simp[hp]⟩
      .simp only[Instr.lookup,c8,run_underlying hT,c9,run_getObj_map g2,dm,run_checkKey hK (qwu s),qn2,fp,hce,e8]
      .simp only[fp,hp,e8,gq];exact(hE.2 j _ _ hp hce).2
    obtain⟨rv,jk,hr2,hr3⟩:=jk;refine⟨_,jk,?_⟩;cases ok with
    |false=>exact hr2
    |true =>
     refine .tuple _ _ ac λj x v hx hv=>?_
     match j with
     | 0=>simp at hx hv;subst hx;subst hv;exact hr2
     | 1=>simp at hx hv;subst hx;subst hv;rw[hr3];exact .val _
     |j+2=>simp at hx
   .exact iu.elim
  .exact iu.elim
 .exact iu.elim
end
section
variable {P:Program}
theorem mapClk.push{kj:Array MapEntry}{clock:Nat}(h:mapClk kj clock)(k v:Value):mapClk (kj.push ⟨k,v,clock⟩) (clock+1):=by
 refine⟨λe he=>?_,?_⟩
 .rw[Array.toList_push,dw]at he;rcases he with he|he
  .exact Nat.lt_succ_of_lt (h.1 e he)
  .grind
 .rw[Array.toList_push,List.pairwise_append];refine⟨h.2,ac,λa ha b hb=>?_⟩;rw[ep.1 hb];exact Nat.ne_of_lt (h.1 a ha)
theorem jjr{a b:List MapEntry}{clock:Nat}(hb:b.map (·.born)=a.map (·.born))(h:(∀e,e∈a->e.born<clock)/\a.Pairwise λx y=>x.born≠y.born):(∀e,e∈b->e.born<clock)/\b.Pairwise λx y=>x.born≠y.born:=by
 refine⟨λe he=>?_,?_⟩
 .have h1:e.born∈a.map (·.born):=by rw[<-hb];exact cy.2 ⟨e,he,rfl⟩
  obtain⟨e',he',e2⟩:=cy.1 h1;rw[<-e2];exact h.1 e' he'
 .have h2:(a.map (·.born)).Pairwise (·≠·):=List.pairwise_map.2 h.2
  rw[<-hb]at h2;exact List.pairwise_map.1 h2
theorem mapClk.modify{kj:Array MapEntry}{clock:Nat}(h:mapClk kj clock)(j:Nat)(k v:Value):mapClk (kj.modify j λe=>{ e with key:=k,val:=v }) clock:=by
 refine jjr (a:=kj.toList) (fh λn=>?_) h;rw[di,di,fb,fb,qj6];split
 .grind
 .rfl
theorem mapClk.erase{kj:Array MapEntry}{clock:Nat}(h:mapClk kj clock)(j:Nat):mapClk (kj.eraseIdxIfInBounds j) clock:=by
 by_cases hj:j<kj.size
 .have hto:(kj.eraseIdxIfInBounds j).toList=kj.toList.eraseIdx j:=by simp[Array.eraseIdxIfInBounds,hj]
  unfold mapClk;rw[hto];exact⟨λe he=>h.1 e ((List.eraseIdx_sublist kj.toList j).subset he),h.2.sublist (List.eraseIdx_sublist kj.toList j)⟩
 .grind
theorem xe0{E:Ent}{c:Ctx}{h:g9}{w:World}(s:HSim c h w)(k:E.ok c h w){i b:Nat}{l l':List (ByteArray×AV)}{kj qxk:Array MapEntry}{clock clock':Nat}
  (hi:h[i]?=some (.map (ra l))) (hb:c.blk i=some b) (hh:w.heap[b]?=some (.map kj clock)) (hE:quk c l' qxk.toList) (hclk:mapClk qxk clock') :
  HSim c (h.set i (.map (ra l'))) { w with heap:=w.heap.setIfInBounds b (.map qxk clock') }/\E.ok c (h.set i (.map (ra l'))) { w with heap:=w.heap.setIfInBounds b (.map qxk clock') }:=by
 have il:b<w.heap.size:=(fv.1 hh).1;have ov:∀g,g≠b->({ w with heap:=w.heap.setIfInBounds b (.map qxk clock') }:World).heap[g]?=w.heap[g]?:=λg hg=>(heap_set hh).2 g hg;have ry:je c i (.map (ra l))=some b:=hb;have hsize:({ w with heap:=w.heap.setIfInBounds b (.map qxk clock') }:World).heap.size=w.heap.size:=ac;have o9:∀j o b',(h.set i (.map (ra l')))[j]?=some o->je c j o=some b'->∃o0,h[j]?=some o0/\je c j o0=some b':=λj o b' hj iq=>by
  rcases m7 hj with⟨rfl,rfl⟩|⟨it,h1⟩
  .exact⟨_,hi,iq⟩
  .grind
 obtain⟨e1,e2⟩:=jfl hE;constructor
 .refine⟨λg j v hD=>?_,λj hj=>s.dom j af,λj o hj=>?_,λj j' o o' b' hj ny kr nm=>?_,λj o b' m v hj kr hD=>?_⟩
  .have hg:g≠b:=λe=>by
    subst e;exact s.sep i _ g j v hi ry hD
   rw[World.cell?_of_block (w:=w) (ov g hg)];exact s.data g j v hD
  .rcases m7 hj with⟨rfl,rfl⟩|⟨it,h1⟩
   .exact⟨b,qxk,clock',hb,(heap_set hh).1,e1,e2,hclk⟩
   .refine(s.obj j o h1).keep (.refl c) (λ_=>rfl) λb' iq=>ov b' λe=>it ?_;subst e;exact s.apart j i o _ b' h1 hi iq ry
  .obtain⟨o1,h1,mz⟩:=o9 j o b' hj kr;obtain⟨o2,h2,zq⟩:=o9 j' o' b' ny nm;exact s.apart j j' o1 o2 b' h1 h2 mz zq
  .rcases m7 hj with⟨rfl,rfl⟩|⟨it,h1⟩
   .have:=s.sep j (.map (ra l)) b' m v hi kr hD;exact this
   .exact s.sep j o b' m v h1 kr hD
 .refine⟨k.edom,k.ext,k.blk0,bs,k.os,k.tape,k.output,qgx,λg hg kf=>?_,λj o b' hj kr=>?_,k.dold⟩
  .have it:g≠b:=λe=>by
    subst e;rcases k.newobj i _ g hi ry with⟨i0,o0,h0,h1⟩|h2
    .grind
    .omega
   rw[ov g it];exact k.frame g hg kf
  .obtain⟨o1,h1,mz⟩:=o9 j o b' hj kr;exact k.newobj j o1 b' h1 mz
theorem jde{E:Ent}{c:Ctx}{h:g9}{w:World}(s:HSim c h w)(k:E.ok c h w) :
  ∃c',c.le c'/\HSim c' (h++[.map []]) (w.alloc (.map #[] 0))/\E.ok c' (h++[.map []]) (w.alloc (.map #[] 0))/\c'.blk h.length=some w.heap.size:=by
 have hw:∀b,b<w.heap.size->(w.alloc (.map #[] 0)).heap[b]?=w.heap[b]?:=λb hb=>heap_alloc_old w _ b hb;have s1:HSim c h (w.alloc (.map #[] 0)):=s.ext hw (.refl c) (λ_ _=>rfl) (λ_ _ _ h=>.inl h) s.dom;have k1:E.ok c h (w.alloc (.map #[] 0)):=k.ext' s hw (.refl c) (λ_=>rfl) rfl rfl rfl (qdy w _) (λ_ _ _ h=>.inl h);have ij:c.le (c.addBlk h.length w.heap.size):=Ctx.addBlk_le (s.dom h.length (cn _)).1;have r8:(c.addBlk h.length w.heap.size).blk h.length=some w.heap.size:=qfp;have hb:∀b',je (c.addBlk h.length w.heap.size) h.length (.map [])=some b'->b'=w.heap.size:=λb' iq=>by grind[je,eb]
 exact⟨_,ij,s1.push (s.fresh (cn _)) (s.noD (cn _)) ⟨_,#[],0,r8,heap_alloc_new w _,rfl,λj k x ce hx _=>by simp at hx,by simp[mapClk]⟩ hb,k1.push s1 k.size hb,r8⟩
theorem run_makeMap{w:World}{T k e:TypeId}(hT:P.underlying T=some (.map k e)):∀(r:Option Value),(∀v,r=some v->∃q n,v=.int q n)->(Instr.makeMap T r).run P w=.ok (.map (some w.heap.size)) (w.alloc (.map #[] 0))
 |none,_=>by simp[Instr.makeMap,Result.andThen,newObj,Sem.run]
 |some v,h=>by
  obtain⟨q,n,rfl⟩:=h v rfl;simp[Instr.makeMap,run_underlying hT,asInt,asIntOf,Result.andThen]
theorem xx2{E:Ent}{c:Ctx}{h:g9}{w:World}(s:HSim c h w)(k:E.ok c h w){T kt et:TypeId}{i:Nat}{l:List (ByteArray×AV)}{key:ByteArray}{x:AV}{m v:Value}(hT:im P T=.map kt et)(hK:im P kt=.string)
  (hm:Rel c (.mapr i) m) (hx:Rel c x v) (kp:qkt (.string key)=true) (hi:h[i]?=some (.map (ra l))) :
  ∃w',(Instr.mapUpdate T m (.string key) v).run P w=.ok () w'/\HSim c (h.set i (.map (ra (qsi l key x)))) w'/\E.ok c (h.set i (.map (ra (qsi l key x)))) w':=by
 obtain⟨b,rfl,hb⟩:=xej hm;obtain⟨b',kj,clock,g1,g2,g3,g4,g5⟩:=s.obj i _ hi;rw[hb]at g1;cases g1;have hE:=xht g3 g4;have hT':=qzq hT;have hK':=xcl hK;have qn2:=run_findKey (P:=P) (w:=w) (kt:=kt) hK' (xfa key l kj.toList 0 hE);rw[xok];cases hj:y4 l key with
 |none =>
  rw[hj]at qn2;have hE':quk c (l++[(key,x)]) (kj.push ⟨.string key,v,clock⟩).toList:=by
   refine⟨by simp[hE.1],λj p ce hp hc=>?_⟩;simp only[Array.toList_push]at hc;by_cases il:j<l.length
   .rw[co il]at hp;rw[co (by rw[hE.1];exact il)]at hc;exact hE.2 j p ce hp hc
   .rw[cx aa]at hp;rw[cx (by rw[hE.1];omega),hE.1]at hc;cases hjl:j - l.length with
    |zero=>rw[hjl]at hp hc;simp at hp hc;subst hp;subst hc;exact⟨⟨rfl,kp⟩,hx⟩
    |succ n=>rw[hjl]at hp;simp at hp
  obtain⟨s',k'⟩:=xe0 (clock':=clock+1) s k hi hb g2 hE' (g5.push _ _);refine⟨_,?_,s',k'⟩;simp only[Instr.mapUpdate,c8,run_underlying hT',c9,run_getObj_map g2,run_checkKey hK' (qwu key),qn2,Option.bind_none,run_setObj_map _ g2]
 |some j =>
  rw[hj]at qn2;obtain⟨pv,hp⟩:=xi3 hj;have il:j<kj.size:=qhm;have hce:kj.toList[j]?=some kj[j]:=bc;have qrg:=(hE.2 j _ _ hp hce).1.1;have hE':quk c (l.set j (key,x)) (kj.modify j λe=>{ e with key:=.string key,val:=v }).toList:=by
   refine⟨by simpa using hE.1,λn p ce hp' hc=>?_⟩;have sg:(kj.modify j λe=>{ e with key:=.string key,val:=v })[n]?=some ce:=af;rw[qj6]at sg;rcases m7 hp' with⟨rfl,rfl⟩|⟨it,h1⟩
   .grind
   .rw[if_neg (Ne.symm it)]at sg;exact hE.2 n p ce h1 af
  obtain⟨s',k'⟩:=xe0 (clock':=clock) s k hi hb g2 hE' (g5.modify _ _ _);refine⟨_,?_,s',k'⟩;have hg:kj[j]?=some kj[j]:=bc;simp only[Instr.mapUpdate,c8,run_underlying hT',c9,run_getObj_map g2,run_checkKey hK' (qwu key),qn2,fp,hce,e8,cz,hg,gq,qrg,run_keyThatStays (qwu key),run_setObj_map _ g2]
theorem jav{E:Ent}{c:Ctx}{h:g9}{w:World}(s:HSim c h w)(k:E.ok c h w){T T' kt et ty:TypeId}{i:Nat}{l:List (ByteArray×AV)}{key:ByteArray}{m:Value}(hT:im P T=.map kt et)(hK:im P kt=.string)
  (hm:Rel c (.mapr i) m) (hi:h[i]?=some (.map (ra l))) :
  ∃w',(Builtin.delete_ #[T,T'] ty #[m,.string key]).run P w=.ok (.tuple #[]) w'/\HSim c (h.set i (.map (ra (quw l key)))) w'/\E.ok c (h.set i (.map (ra (quw l key)))) w':=by
 obtain⟨b,rfl,hb⟩:=xej hm;obtain⟨b',kj,clock,g1,g2,g3,g4,g5⟩:=s.obj i _ hi;rw[hb]at g1;cases g1;have hE:=xht g3 g4;have hT':=qzq hT;have hK':=xcl hK;have qn2:=run_findKey (P:=P) (w:=w) (kt:=kt) hK' (xfa key l kj.toList 0 hE);rw[xnv];cases hj:y4 l key with
 |none =>
  rw[hj]at qn2;obtain⟨s',k'⟩:=xe0 (clock':=clock) s k hi hb g2 hE g5;refine⟨_,?_,s',k'⟩;simp[Builtin.delete_,run_underlying hT',c9,run_getObj_map g2,run_checkKey hK' (qwu key),qn2,run_setObj_map _ g2]
 |some j =>
  rw[hj]at qn2;have il:j<kj.size:=qhm;have hce:kj.toList[j]?=some kj[j]:=bc;have hE':quk c (l.eraseIdx j) (kj.eraseIdxIfInBounds j).toList:=by
   have hto:(kj.eraseIdxIfInBounds j).toList=kj.toList.eraseIdx j:=ac;rw[hto];refine⟨by rw[List.length_eraseIdx,List.length_eraseIdx,hE.1],λn p ce hp hc=>?_⟩;rw[List.getElem?_eraseIdx]at hp hc;split at hp
   .rename_i hn;rw[if_pos hn]at hc;exact hE.2 n p ce hp hc
   .rename_i hn;rw[if_neg hn]at hc;exact hE.2 (n+1) p ce hp hc
  obtain⟨s',k'⟩:=xe0 (clock':=clock) s k hi hb g2 hE' (g5.erase _);refine⟨_,?_,s',k'⟩;have hce':kj[j]?=some kj[j]:=bc;simp[Builtin.delete_,run_underlying hT',c9,run_getObj_map g2,run_checkKey hK' (qwu key),qn2,run_setObj_map _ g2,hce']
theorem jfq{E:Ent}{c:Ctx}{h:g9}{w:World}(s:HSim c h w)(k:E.ok c h w){i b:Nat}{st:ByteArray}{p p':Nat}
  (hi:h[i]?=some (.iter st p)) (hb:c.blk i=some b) (hh:w.heap[b]?=some (.stringIter st p)) :
  HSim c (h.set i (.iter st p')) { w with heap:=w.heap.setIfInBounds b (.stringIter st p') }/\E.ok c (h.set i (.iter st p')) { w with heap:=w.heap.setIfInBounds b (.stringIter st p') }:=by
 have il:b<w.heap.size:=(fv.1 hh).1;have ov:∀g,g≠b->({ w with heap:=w.heap.setIfInBounds b (.stringIter st p') }:World).heap[g]?=w.heap[g]?:=λg hg=>(heap_set hh).2 g hg;have ry:je c i (.iter st p)=some b:=hb;have hsize:({ w with heap:=w.heap.setIfInBounds b (.stringIter st p') }:World).heap.size=w.heap.size:=ac;have o9:∀j o b',(h.set i (.iter st p'))[j]?=some o->je c j o=some b'->∃o0,h[j]?=some o0/\je c j o0=some b':=λj o b' hj iq=>by
  rcases m7 hj with⟨rfl,rfl⟩|⟨it,h1⟩
  .exact⟨_,hi,iq⟩
  .grind
 constructor
 .refine⟨λg j v hD=>?_,λj hj=>s.dom j af,λj o hj=>?_,λj j' o o' b' hj ny kr nm=>?_,λj o b' m v hj kr hD=>?_⟩
  .have hg:g≠b:=λe=>by
    subst e;exact s.sep i _ g j v hi ry hD
   rw[World.cell?_of_block (w:=w) (ov g hg)];exact s.data g j v hD
  .rcases m7 hj with⟨rfl,rfl⟩|⟨it,h1⟩
   .exact⟨b,hb,(heap_set hh).1⟩
   .refine(s.obj j o h1).keep (.refl c) (λ_=>rfl) λb' iq=>ov b' λe=>it ?_;subst e;exact s.apart j i o _ b' h1 hi iq ry
  .obtain⟨o1,h1,mz⟩:=o9 j o b' hj kr;obtain⟨o2,h2,zq⟩:=o9 j' o' b' ny nm;exact s.apart j j' o1 o2 b' h1 h2 mz zq
  .rcases m7 hj with⟨rfl,rfl⟩|⟨it,h1⟩
   .have:=s.sep j (.iter st p) b' m v hi kr hD;exact this
   .exact s.sep j o b' m v h1 kr hD
 .refine⟨k.edom,k.ext,k.blk0,bs,k.os,k.tape,k.output,qgx,λg hg kf=>?_,λj o b' hj kr=>?_,k.dold⟩
  .have it:g≠b:=λe=>by
    subst e;rcases k.newobj i _ g hi ry with⟨i0,o0,h0,h1⟩|h2
    .grind
    .omega
   rw[ov g it];exact k.frame g hg kf
  .obtain⟨o1,h1,mz⟩:=o9 j o b' hj kr;exact k.newobj j o1 b' h1 mz
theorem jfn{E:Ent}{c:Ctx}{h:g9}{w:World}(s:HSim c h w)(k:E.ok c h w)(st:ByteArray) :
  ∃c',c.le c'/\HSim c' (h++[.iter st 0]) (w.alloc (.stringIter st 0))/\E.ok c' (h++[.iter st 0]) (w.alloc (.stringIter st 0))/\c'.blk h.length=some w.heap.size:=by
 have hw:∀b,b<w.heap.size->(w.alloc (.stringIter st 0)).heap[b]?=w.heap[b]?:=λb hb=>heap_alloc_old w _ b hb;have s1:HSim c h (w.alloc (.stringIter st 0)):=s.ext hw (.refl c) (λ_ _=>rfl) (λ_ _ _ h=>.inl h) s.dom;have k1:E.ok c h (w.alloc (.stringIter st 0)):=k.ext' s hw (.refl c) (λ_=>rfl) rfl rfl rfl (qdy w _) (λ_ _ _ h=>.inl h);have ij:c.le (c.addBlk h.length w.heap.size):=Ctx.addBlk_le (s.dom h.length (cn _)).1;have r8:(c.addBlk h.length w.heap.size).blk h.length=some w.heap.size:=qfp;have hb:∀b',je (c.addBlk h.length w.heap.size) h.length (.iter st 0)=some b'->b'=w.heap.size:=λb' iq=>by grind[je,eb]
 exact⟨_,ij,s1.push (s.fresh (cn _)) (s.noD (cn _)) ⟨_,r8,heap_alloc_new w _⟩ hb,k1.push s1 k.size hb,r8⟩
theorem ji0{w:World}{T:TypeId}(hT:P.underlying T=some .string)(st:ByteArray):(Instr.range T (.string st)).run P w=.ok (.pointer (some ⟨w.heap.size,0,none⟩)) (w.alloc (.stringIter st 0)):=by
 simp[Instr.range,run_underlying hT,Result.andThen]
theorem xwf{w:World}{b:Nat}{st:ByteArray}{p:Nat}(hb:w.heap[b]?=some (.stringIter st p))(ty:TypeId) :
  (Instr.next (.pointer (some ⟨b,0,none⟩)) true ty).run P w =
   if p<st.size then .ok (.tuple #[.bool true,goInt p,.int .i32 (Utf8.decode st p).1]) { w with heap:=w.heap.setIfInBounds b (.stringIter st (p+(Utf8.decode st p).2)) }
   else .ok (.tuple #[.bool false]) w:=by
 have hg:(getObj b).run P w=.ok (.stringIter st p) w:=by simp[getObj,Sem.run,hb]
 have hs:∀o,(setObj b o).run P w=.ok () { w with heap:=w.heap.setIfInBounds b o }:=λo=>by simp[setObj,Sem.run,hb]
 by_cases h:p<st.size
 .simp only[Instr.next,c8,hg,c9,if_pos h,hs,dm]
 .simp only[Instr.next,c8,hg,c9,if_neg h,dm]
end
end Go.Abs
