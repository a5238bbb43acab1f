/- Part 18 of a proof. -/
import Derived.Below
import GoSem.ClaimChange
import Derived.Test.YtolejdhnnchfpaaGreatDoorQ12
set_option linter.all false
namespace Go.Abs
section
variable {H:Type} {enc:TypeId×Value->H} {P:Program} {w:World}
def qob(w:World)(b j:Nat):Option Value:=match w.cell? ⟨b,j,none⟩with
 |some (.int .u64 _)=>none
 |o=>o
def noU(v:Value):Prop:=∀n,v≠.int .u64 n
theorem xrd{b j:Nat}{v:Value}(h:w.cell? ⟨b,j,none⟩=some v)(hv:noU v):qob w b j=some v:=by
 unfold qob;rw[h];split
 .rename_i e;cases e;exact(hv _ rfl).elim
 .rfl
theorem xti{b j:Nat}{v:Value}(h:qob w b j=some v):w.cell? ⟨b,j,none⟩=some v/\noU v:=by
 unfold qob at h;split at h
 .cases h
 .rename_i hn;exact⟨h,λn e=>hn n (by rw[h,e])⟩
structure Bulk(B:DataW H->Nat):Prop where
 str:∀s:List UInt8,s.length<=B (.lit (.string s))
 len:∀e s,e.length<=B (.slice e s)
 sl:∀e s x,x∈e->B x<=B (.slice e s)
 agg:∀ps x,x∈ps->B x<=B (.agg ps)
def DL(w:World):List AV->List Value->Prop
 | [],[]=>True
 |x::xs,v::vs=>(DRel (qob w) x v/\noU v)/\DL w xs vs
 |_,_=>False
theorem DL.len:∀{xs:List AV} {vs:List Value},DL w xs vs->xs.length=vs.length
 | [],[],_=>rfl
 |x::xs,v::vs,h=>by simp[DL.len h.2]
 | [],_::_,h=>h.elim
 |_::_,[],h=>h.elim
theorem DL.get:∀{xs:List AV} {vs:List Value},DL w xs vs->∀{j:Nat} {x:AV},xs[j]?=some x->∃v,vs[j]?=some v/\DRel (qob w) x v/\noU v
 | [],[],_,j,x,hx=>by simp at hx
 |x::xs,v::vs,h,0,y,hy=>by simp at hy;subst hy;exact⟨v,rfl,h.1⟩
 |x::xs,v::vs,h,j+1,y,hy=>by
  obtain⟨u,h1,h2⟩:=DL.get h.2 (j:=j) (by simpa using hy);exact⟨u,bw,h2⟩
 | [],_::_,h,_,_,_=>h.elim
 |_::_,[],h,_,_,_=>h.elim
theorem DL.app:∀{xs ys:List AV} {us vs:List Value},DL w xs us->DL w ys vs->DL w (xs++ys) (us++vs)
 | [],ys,[],vs,_,k=>k
 |x::xs,ys,u::us,vs,h,k=>⟨h.1,DL.app h.2 k⟩
 | [],_,_::_,_,h,_=>h.elim
 |_::_,_,[],_,h,_=>h.elim
variable (enc P w) in
def Rd(B:DataW H->Nat)(L n:Nat)(t:TypeId)(Q:List AV->Prop):Prop :=
 ∀kh cs d ps,kh<=n->DataW.trod enc P w 0 (λ_=>true) true kh t cs=some (d,ps)->B d<=L->∃xs,DL w xs cs/\Q xs
variable {B:DataW H->Nat} {L n:Nat} {t:TypeId}
theorem Rd.mono{Q Q':List AV->Prop}(h:Rd enc P w B L n t Q)(hq:∀xs,Q xs->Q' xs):Rd enc P w B L n t Q':=λkh cs d ps hf ht hb=>by
 obtain⟨xs,h1,h2⟩:=h kh cs d ps hf ht hb;exact⟨xs,h1,hq xs h2⟩
theorem Rd.le{m:Nat}{Q:List AV->Prop}(h:Rd enc P w B L n t Q)(hm:m<=n):Rd enc P w B L m t Q:=λkh cs d ps hf=>h kh cs d ps (dv hf hm)
theorem Rd.zero{Q:List AV->Prop}:Rd enc P w B L 0 t Q:=λkh cs d ps hf ht=>by
 have:kh=0:=aa;subst this;simp[DataW.trod]at ht
def qkv(k:IntKind)(xs:List AV):Prop:=∃z,xs=[.val (.int k z)]/\k.min<=z/\z<=k.max
def xb9(xs:List AV):Prop:=∃b,xs=[.val (.bool b)]
def qpq(L:Nat)(xs:List AV):Prop:=∃s:ByteArray,xs=[.val (.string s)]/\s.size<=L
def qSl(L:Nat)(Q:List AV->Prop)(xs:List AV):Prop:=∃rows,xs=[.slice rows]/\rows.length<=L/\∀r,r∈rows->Q r
theorem xry{k:IntKind}(hk:k≠.u64)(ht:P.underlying t=some (.int k)):Rd enc P w B L n t (qkv k):=λkh cs d ps _ h _=>by
 cases kh with
 |zero=>simp[DataW.trod]at h
 |succ f =>
  unfold DataW.trod at h;simp only[ht]at h;split at h
  all_goals first
   |(exfalso;rename_i e;simp at e;done)
   |skip
  .rename_i k0 k1 z e;cases e;split at h
   .rename_i hc;obtain⟨rfl,hw⟩:=hc;simp only[Lit.wf,cw,decide_eq_true_eq]at hw;exact⟨[.val (.int _ z)],⟨⟨.val _ rfl rfl,λm e=>by cases e;exact hk rfl⟩,trivial⟩,z,rfl,hw⟩
   .cases h
  all_goals cases h
theorem jgy(ht:P.underlying t=some .bool):Rd enc P w B L n t xb9:=λkh cs d ps _ h _=>by
 cases kh with
 |zero=>simp[DataW.trod]at h
 |succ f =>
  unfold DataW.trod at h;simp only[ht]at h;split at h
  all_goals first
   |(exfalso;rename_i e;simp at e;done)
   |skip
  .rename_i b _;exact⟨[.val (.bool b)],⟨⟨.val _ rfl rfl,λm e=>by cases e⟩,trivial⟩,b,rfl⟩
  all_goals cases h
theorem xxh(hB:Bulk B)(hL:L<=68719476736)(ht:P.underlying t=some .string):Rd enc P w B L n t (qpq L):=λkh cs d ps _ h hb=>by
 cases kh with
 |zero=>simp[DataW.trod]at h
 |succ f =>
  unfold DataW.trod at h;simp only[ht]at h;split at h
  all_goals first
   |(exfalso;rename_i e;simp at e;done)
   |skip
  .rename_i s _;split at h
   .cases h;have h1:=hB.str s.data.toList;have h2:s.size=s.data.toList.length:=rfl;have h3:s.size<=L:=aa;have h4:s.size<=68719476736:=dv h3 hL;exact⟨[.val (.string s)],⟨⟨.val _ rfl (by grind[qkt]),λm e=>by cases e⟩,trivial⟩,s,rfl,h3⟩
   .cases h
  all_goals cases h
theorem qy5{α β:Type}{f:α->Option β}:∀{l:List α} {r:List β},l.mapM f=some r->r.length=l.length/\∀(i:Nat) (x:α),l[i]?=some x->∃y,r[i]?=some y/\f x=some y
 | [],r,h=>by grind
 |x::l,r,h=>by
  rw[List.mapM_cons]at h;simp only[Option.bind_eq_bind,qjl,Option.pure_def,eb]at h;obtain⟨y,hy,r',hr,rfl⟩:=h;obtain⟨h1,h2⟩:=qy5 hr;refine⟨qgl,λi z hz=>?_⟩;cases i with
  |zero=>simp at hz;subst hz;exact⟨y,rfl,hy⟩
  |succ i =>
   obtain⟨u,h3,h4⟩:=h2 i z af;exact⟨u,by simpa using h3,h4⟩
theorem qvp{n i:Nat}(h:i<n):(List.range n)[i]?=some i:=bx
theorem xcb{a:Addr}{n:Nat}{cs:List Value}(h:w.cells? 0 a n=some cs):cs.length=n/\∀j v,cs[j]?=some v->w.cell? (a.add j)=some v:=by
 unfold World.cells? at h;rw[if_pos (dq _)]at h;obtain⟨h1,h2⟩:=qy5 h;rw[qkh]at h1;refine⟨h1,λj v hv=>?_⟩;have hj:j<n:=af;obtain⟨y,h3,h4⟩:=h2 j j (qvp hj);rw[hv]at h3;cases h3;exact h4
theorem xs6{a:Addr}{v:Value}(h:w.cell? a=some v):a.spot=none:=by
 unfold World.cell? at h;split at h
 .simp_all
 .cases h
theorem add_add(a:Addr)(i j:Nat)(hs:a.spot=none):(a.add i).add j=⟨a.block,a.off+i+j,none⟩:=by
 obtain⟨b,o,s⟩:=a;simp only at hs;subst hs;unfold Addr.add;split<;>split<;>simp_all
theorem xp6(hB:Bulk B)(hL:L<=68719476736){e:TypeId}(ht:P.underlying t=some (.slice e)){sz:Nat}(jx:P.cellsOf e=sz)(h0:0<sz){Q:List AV->Prop}(hl:∀xs,Q xs->xs.length=sz)(he:Rd enc P w B L n e Q) :
  Rd enc P w B L n t (qSl L Q):=λkh cs d ps hf h hb=>by
 cases kh with
 |zero=>simp[DataW.trod]at h
 |succ f =>
  unfold DataW.trod at h;simp only[ht]at h;split at h
  all_goals first
   |(exfalso;rename_i e;simp at e;done)
   |skip
  .exact⟨[.slice []],⟨⟨.nil,λm e=>by cases e⟩,trivial⟩,[],rfl,dq _,ac⟩
  .rename_i e' a len cap e1;cases e1;simp only[jx,if_true]at h;split at h
   .rename_i hc;obtain⟨_,hlc,lw⟩:=hc;simp only[qjl,db]at h;obtain⟨qqy,hel,rest,hre,hx⟩:=h;cases hx;obtain⟨e2,e3⟩:=qy5 hel;obtain⟨r2,r3⟩:=qy5 hre;rw[qkh]at e2 r2;have jm:=hB.len (qqy.map (·.1)) (rest.map (·.1))
    rw[eo]at jm;have xa2:∀k y,((w.cells? 0 (a.add (k * sz)) sz).bind (DataW.trod enc P w 0 (λ_=>true) true f e))=some y->k=0->a.spot=none:=by
     intro k y hy hk;subst hk;rw[qjl]at hy;obtain⟨cs,md,_⟩:=hy;obtain⟨c1,c2⟩:=xcb md;have il:0<cs.length:=aa;have:=xs6 (c2 0 cs[0] ac);simpa[Addr.add]using this
    by_cases hz:cap=0
    .have w9:len=0:=aa;subst w9;subst hz;exact⟨[.slice []],⟨⟨.empty a,λm e=>by cases e⟩,trivial⟩,[],rfl,dq _,ac⟩
    have hs:a.spot=none:=by
     by_cases w9:len=0
     .subst w9;obtain⟨y,_,hy⟩:=r3 0 0 (qvp aa);exact xa2 (0+0) y hy rfl
     .obtain⟨y,_,hy⟩:=e3 0 0 (qvp aa);exact xa2 0 y hy rfl
    have my:∀i,i<len->∃xs,Q xs/\∀(j:Nat) (x:AV),xs[j]?=some x->∃v,w.cell? ⟨a.block,a.off+i * sz+j,none⟩=some v/\DRel (qob w) x v/\noU v:=by
     intro i hi;obtain⟨y,hy,hy2⟩:=e3 i i (qvp hi);rw[qjl]at hy2;obtain⟨cs,md,htr⟩:=hy2;have hm:y.1∈qqy.map (·.1):=qjk (cv hy)
     obtain⟨xs,hd,hq⟩:=he f cs y.1 y.2 aa htr (dv (hB.sl _ _ _ hm) hb);refine⟨xs,hq,λj x hx=>?_⟩;obtain⟨v,hv,hd1,hd2⟩:=hd.get hx;have:=(xcb md).2 j v hv;rw[add_add _ _ _ hs]at this;exact⟨v,this,hd1,hd2⟩
    obtain⟨rows,oz,hrp⟩:=xbv (λi xs=>Q xs/\∀(j:Nat) (x:AV),xs[j]?=some x->∃v,w.cell? ⟨a.block,a.off+i * sz+j,none⟩=some v/\DRel (qob w) x v/\noU v) len my;have mb:∀(i j:Nat) (r:List AV) (x:AV),rows[i]?=some r->r[j]?=some x->w.cell? ⟨a.block,a.off+i * sz+j,none⟩=some ((w.cell? ⟨a.block,a.off+i * sz+j,none⟩).getD undef)/\DRel (qob w) x ((w.cell? ⟨a.block,a.off+i * sz+j,none⟩).getD undef)/\noU ((w.cell? ⟨a.block,a.off+i * sz+j,none⟩).getD undef):=af;have hlL:len<=L:=aa;have hq:∀r,r∈rows->Q r:=λr hr=>by grind[da]
    refine⟨[.slice rows],⟨⟨?_,λm e=>by cases e⟩,trivial⟩,rows,rfl,aa,hq⟩;obtain⟨ab,ao,asp⟩:=a;simp only at hs;subst hs;subst oz;exact .slice rows ab ao cap sz (λi j=>(w.cell? ⟨ab,ao+i * sz+j,none⟩).getD undef) (λr hr=>hl r (hq r hr)) (dv hlL hL) hlc (λi j r x hr hx=>xrd (mb i j r x hr hx).1 (mb i j r x hr hx).2.2) (λi j r x hr hx=>(mb i j r x hr hx).2.1)
   .cases h
  all_goals cases h
variable (enc P w) in
def qn4(B:DataW H->Nat)(L n:Nat):Nat->List Field->List (List AV->Prop)->Nat->Prop
 |o,[],[],e=>o=e
 |o,f::fs,Q::Qs,e=>f.offset=o/\(∃k,P.cellsOf f.type=k/\Rd enc P w B L n f.type Q/\(∀xs,Q xs->xs.length=k)/\qn4 B L n (o+k) fs Qs e)
 |_,_,_,_=>False
def qya:List (List AV)->List (List AV->Prop)->Prop
 | [],[]=>True
 |p::ps,Q::Qs=>Q p/\qya ps Qs
 |_,_=>False
theorem xol{f:Nat}(hfn:f<=n)(cs:List Value):∀{fs:List Field} {Qs:List (List AV->Prop)} {o:Nat} {xs:List (DataW H×List MemPlace)},qn4 enc P w B L n o fs Qs cs.length ->
  fs.mapM (λx=>DataW.trod enc P w 0 (λ_=>true) true f x.type ((cs.drop x.offset).take (P.cellsOf x.type)))=some xs->(∀x,x∈xs->B x.1<=L) ->
  ∃ps,qya ps Qs/\DL w ps.flatten (cs.drop o)
 | [],[],o,xs,h,hm,_=>⟨[],trivial,by
   have:o=cs.length:=h;rw[this,List.drop_length];exact trivial⟩
 |x::fs,Q::Qs,o,xs,h,hm,hb=>by
  obtain⟨rfl,k,rfl,hr,hql,qrw⟩:=h;rw[List.mapM_cons]at hm;simp only[Option.bind_eq_bind,qjl,Option.pure_def,eb]at hm;obtain⟨y,hy,r',jf,rfl⟩:=hm;obtain⟨ps,p1,p2⟩:=xol hfn cs qrw jf λz hz=>hb z (by simp[hz]);obtain⟨q,q1,q2⟩:=hr f _ y.1 y.2 hfn hy (hb y ac);refine⟨q::ps,⟨q2,p1⟩,?_⟩;have:=DL.app q1 p2;rw[List.flatten_cons];rw[show cs.drop x.offset=(cs.drop x.offset).take (P.cellsOf x.type)++cs.drop (x.offset+P.cellsOf x.type)by rw[<-List.drop_drop,gn]];exact this
 | [],_::_,_,_,h,_,_=>h.elim
 |_::_,[],_,_,h,_,_=>h.elim
theorem qdd(hB:Bulk B){fs:Array Field}(ht:P.underlying t=some (.struct fs)){Qs:List (List AV->Prop)}(hF:qn4 enc P w B L n 0 fs.toList Qs (P.cellsOf t)) :
  Rd enc P w B L (n+1) t λxs=>∃ps,qya ps Qs/\xs=ps.flatten:=λkh cs d ps hf h hb=>by
 cases kh with
 |zero=>simp[DataW.trod]at h
 |succ f =>
  unfold DataW.trod at h;simp only[ht]at h;split at h
  .rename_i hc;simp only[db]at h;obtain⟨xs,hx,e2⟩:=h;cases e2;rw[<-hc]at hF;obtain⟨qs,h1,h2⟩:=xol (f:=f) aa cs hF hx λx nw=>dv (hB.agg _ _ (qjk nw)) hb;exact⟨qs.flatten,by simpa using h2,qs,h1,rfl⟩
  .cases h
theorem pk{ps:List (List AV)}{Q:List AV->Prop}{Qs:List (List AV->Prop)}(h:qya ps (Q::Qs)):∃p ps',ps=p::ps'/\Q p/\qya ps' Qs:=by
 cases ps with
 |nil=>exact h.elim
 |cons p ps'=>exact⟨p,ps',rfl,h.1,h.2⟩
theorem qde{ps:List (List AV)}(h:qya ps []):ps=[]:=by
 cases ps with
 |nil=>rfl
 |cons p ps'=>exact h.elim
theorem qek{k:IntKind}:∀xs,qkv k xs->xs.length=1:=by rintro _ ⟨z,rfl,_⟩;rfl
theorem jbj:∀xs,xb9 xs->xs.length=1:=by rintro _ ⟨z,rfl⟩;rfl
theorem qtw{L:Nat}:∀xs,qpq L xs->xs.length=1:=by rintro _ ⟨z,rfl,_⟩;rfl
theorem xgl{α:Type}{c:α->List AV}{zm:α->Prop}:∀{rows:List (List AV)},(∀r,r∈rows->∃a,r=c a/\zm a)->∃l:List α,rows=l.map c/\∀a∈l,zm a
 | [],_=>⟨[],rfl,ac⟩
 |r::rows,h=>by
  obtain⟨a,rfl,ha⟩:=h r ac;obtain⟨l,rfl,hl⟩:=xgl (rows:=rows) λr hr=>h r qfo;refine⟨a::l,rfl,λb hb=>?_⟩;rcases c0.1 hb with rfl|hb
  .exact ha
  .exact hl b hb
def qqo(w:World)(g:Nat):Ctx:=⟨qob w,λi=>if i=0 then some g else none,λ_ _=>none⟩
theorem jev{g:Nat}{tab:Array Value}{T:TypeId}{x:Nat×Nat}(hg:w.heap[g]?=some (.cells tab T x))(htab:∀(j:Nat) (v:Value),tab[j]?=some v->∃n,v=.int .u64 n) :
  HSim (qqo w g) [.raw g (λ_=>.cells tab T x) []] w where
 data:=λb j v h=>(xti h).1
 dom:=λi hi=>by
  have:i≠0:=af;exact⟨by simp[qqo,this],λm=>rfl⟩
 obj:=λi o hi=>by
  cases i with
  |zero =>
   simp at hi;subst hi;exact⟨by simp[qqo],#[],hg,rfl,λj x v hx=>by simp at hx⟩
  |succ i=>simp at hi
 apart:=λi j o o' b hi hj _ _=>by grind
 sep:=λi o b j v hi hb hD=>by
  cases i with
  |zero =>
   simp at hi;subst hi;simp[je,qqo]at hb;subst hb;obtain⟨h1,h2⟩:=xti hD;unfold World.cell? at h1;simp only[hg]at h1;have mz:tab[j]?=some v:=af;obtain⟨n,rfl⟩:=htab j v mz;exact(h2 n rfl).elim
  |succ i=>simp at hi
theorem xni{g:Nat}{x:AV}{v:Value}(h:DL w [x] [v]):Rel (qqo w g) x v:=.data h.1.1
theorem xxq{g:Nat}{xs:List AV}{cs:Array Value}(h:DL w xs cs.toList):Rel (qqo w g) (.agg xs) (.agg cs):=by
 have hl:=h.len;refine .agg xs cs af (λj v hv=>?_) λj x v hx hv=>?_
 .have hj:j<xs.length:=by
   have:=(fv.1 hv).1;rw[hl];simpa using this
  obtain⟨u,h1,h2,_⟩:=h.get (j:=j) (x:=xs[j]) ac;have:cs.toList[j]?=some v:=af;rw[h1]at this;cases this;exact h2.one
 .obtain⟨u,h1,h2,_⟩:=h.get hx;have:cs.toList[j]?=some v:=af;rw[h1]at this;cases this;exact .data h2
theorem jdu{f:FuncId}{args:Array Value}{avs:List AV}{g:Nat}{tab:Array Value}{T:TypeId}{x:Nat×Nat}(hg:w.heap[g]?=some (.cells tab T x))(htab:∀(j:Nat) (v:Value),tab[j]?=some v->∃n,v=.int .u64 n)
  (hr:RelL (qqo w g) avs args) (hA:ACalls P f avs [.raw g (λ_=>.cells tab T x) []] λr h'=>r=.ret (.val (.bool true))/\h'=[.raw g (λ_=>.cells tab T x) []]) :
  Calls P f args w λe w'=>e=.returned (.bool true)/\RowKit.Below w.heap.size w w':=by
 refine(hA.2 _ w args (jev hg htab) hr).mono ?_;rintro e w' ⟨r,h',c',⟨rfl,rfl⟩,hE,hs,ok⟩;refine⟨?_,ok.os,ok.tape,ok.output,ok.size,λk hk=>?_⟩
 .unfold EndR at hE;split at hE
  .grind[Rel.val_inv]
  .grind
  .grind
 .by_cases vl:k=g
  .subst vl;obtain⟨_,vs,h1,h2,_⟩:=hs.obj 0 _ rfl;have:vs = #[]:=qkc aa;rw[h1,hg]
  .refine ok.frame k hk λi o hi hb=>?_;cases i with
   |zero =>
    simp at hi;subst hi;simp[je,qqo]at hb;exact vl hb.symm
   |succ i=>simp at hi
end
section
variable {H:Type} {enc:TypeId×Value->H} {P:Program} {w:World} {B:DataW H->Nat} {L n:Nat} {t:TypeId}
def jgi(L:Nat)(Q:Nat->List AV->Prop)(xs:List AV):Prop:=∃(rows:List (List AV)) (W:List Nat),xs=[.slice rows]/\W.length=rows.length/\rows.length<=L/\W.sum<=L/\∀(i:Nat) (r:List AV) (k:Nat),rows[i]?=some r->W[i]?=some k->Q k r
theorem jbc(hB:Bulk B)(hS:∀e s,(e.map B).sum<=B (.slice e s))(hL:L<=68719476736){e:TypeId}(ht:P.underlying t=some (.slice e)){sz:Nat}(jx:P.cellsOf e=sz)(h0:0<sz){Q:Nat->List AV->Prop}(hl:∀k xs,Q k xs->xs.length=sz)(he:∀k,k<=L->Rd enc P w B k n e (Q k)) :
  Rd enc P w B L n t (jgi L Q):=λkh cs d ps hf h hb=>by
 cases kh with
 |zero=>simp[DataW.trod]at h
 |succ f =>
  unfold DataW.trod at h;simp only[ht]at h;split at h
  all_goals first
   |(exfalso;rename_i e;simp at e;done)
   |skip
  .exact⟨[.slice []],⟨⟨.nil,λm e=>by cases e⟩,trivial⟩,[],[],rfl,rfl,dq _,dq _,ac⟩
  .rename_i e' a len cap e1;cases e1;simp only[jx,if_true]at h;split at h
   .rename_i hc;obtain⟨_,hlc,lw⟩:=hc;simp only[qjl,db]at h;obtain⟨qqy,hel,rest,hre,hx⟩:=h;cases hx;obtain⟨e2,e3⟩:=qy5 hel;obtain⟨r2,r3⟩:=qy5 hre;rw[qkh]at e2 r2;have jm:=hB.len (qqy.map (·.1)) (rest.map (·.1))
    rw[eo]at jm;have xa2:∀k y,((w.cells? 0 (a.add (k * sz)) sz).bind (DataW.trod enc P w 0 (λ_=>true) true f e))=some y->k=0->a.spot=none:=by
     intro k y hy hk;subst hk;rw[qjl]at hy;obtain⟨cs,md,_⟩:=hy;obtain⟨c1,c2⟩:=xcb md;have il:0<cs.length:=aa;have:=xs6 (c2 0 cs[0] ac);simpa[Addr.add]using this
    by_cases hz:cap=0
    .have w9:len=0:=aa;subst w9;subst hz;exact⟨[.slice []],⟨⟨.empty a,λm e=>by cases e⟩,trivial⟩,[],[],rfl,rfl,dq _,dq _,ac⟩
    have hs:a.spot=none:=by
     by_cases w9:len=0
     .subst w9;obtain⟨y,_,hy⟩:=r3 0 0 (qvp aa);exact xa2 (0+0) y hy rfl
     .obtain⟨y,_,hy⟩:=e3 0 0 (qvp aa);exact xa2 0 y hy rfl
    have my:∀i,i<len->∃xs,Q (B ((qqy[i]?).map (·.1)|>.getD .nil)) xs/\∀(j:Nat) (x:AV),xs[j]?=some x->∃v,w.cell? ⟨a.block,a.off+i * sz+j,none⟩=some v/\DRel (qob w) x v/\noU v:=by
     intro i hi;obtain⟨y,hy,hy2⟩:=e3 i i (qvp hi);rw[qjl]at hy2;obtain⟨cs,md,htr⟩:=hy2;have hm:y.1∈qqy.map (·.1):=qjk (cv hy)
     obtain⟨xs,hd,hq⟩:=he (B y.1) (dv (hB.sl _ _ _ hm) hb) f cs y.1 y.2 aa htr (cn _);refine⟨xs,by rw[hy];exact hq,λj x hx=>?_⟩;obtain⟨v,hv,hd1,hd2⟩:=hd.get hx;have:=(xcb md).2 j v hv;rw[add_add _ _ _ hs]at this;exact⟨v,this,hd1,hd2⟩
    obtain⟨rows,oz,hrp⟩:=xbv (λi xs=>Q (B ((qqy[i]?).map (·.1)|>.getD .nil)) xs/\∀(j:Nat) (x:AV),xs[j]?=some x->∃v,w.cell? ⟨a.block,a.off+i * sz+j,none⟩=some v/\DRel (qob w) x v/\noU v) len my
    have mb:∀(i j:Nat) (r:List AV) (x:AV),rows[i]?=some r->r[j]?=some x->w.cell? ⟨a.block,a.off+i * sz+j,none⟩=some ((w.cell? ⟨a.block,a.off+i * sz+j,none⟩).getD undef)/\DRel (qob w) x ((w.cell? ⟨a.block,a.off+i * sz+j,none⟩).getD undef)/\noU ((w.cell? ⟨a.block,a.off+i * sz+j,none⟩).getD undef):=af;have hlL:len<=L:=aa;have hq:∀r,r∈rows->r.length=sz:=λr hr=>by grind[da]
    have hsum:((qqy.map (·.1)).map B).sum<=L:=dv (hS _ _) hb
    have iz:∀(i:Nat) (r:List AV) (k:Nat),rows[i]?=some r->((qqy.map (·.1)).map B)[i]?=some k->Q k r:=λi r k hr hk=>by grind
    refine⟨[.slice rows],⟨⟨?_,λm e=>by cases e⟩,trivial⟩,rows,(qqy.map (·.1)).map B,rfl,by simp[oz,e2],aa,hsum,iz⟩
    obtain⟨ab,ao,asp⟩:=a;simp only at hs;subst hs;subst oz;exact .slice rows ab ao cap sz (λi j=>(w.cell? ⟨ab,ao+i * sz+j,none⟩).getD undef) (λr hr=>hq r hr) (dv hlL hL) hlc (λi j r x hr hx=>xrd (mb i j r x hr hx).1 (mb i j r x hr hx).2.2) (λi j r x hr hx=>(mb i j r x hr hx).2.1)
   .cases h
  all_goals cases h
end
end Go.Abs
