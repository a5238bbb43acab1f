/- Part 7 of a proof. -/
import Derived.Below
import GoSem.ClaimChange
import Derived.Test.YtolejdhnnchfpaaGreatDoorR04
set_option linter.all false
set_option maxRecDepth 100000
set_option maxHeartbeats 4000000
namespace Go.Abs
section
variable {H:Type} {enc:TypeId×Value->H} {P:Program} {w:World}
def pK(w:World)(b j:Nat):Option Value:=match w.cell? ⟨b,j,none⟩with
 |some (.int .u64 _)=>none
 |o=>o
def xI(v:Value):Prop:=∀n,v≠.int .u64 n
theorem P7{b j:Nat}{v:Value}(h:w.cell? ⟨b,j,none⟩=some v)(hv:xI v):pK w b j=some v:=by
 unfold pK;rw[h];split
 .rename_i e;cases e;exact(hv _ rfl).elim
 rfl
theorem Mm{b j:Nat}{v:Value}(h:pK w b j=some v):w.cell? ⟨b,j,none⟩=some v/\xI v:=by
 unfold pK at h;split at h
 .cases h
 rename_i hn;exact⟨h,λn e=>hn n (by rw[h,e])⟩
structure Bulk(hN:DataW H->Nat):Prop where
 str:∀s:List UInt8,s.length<=hN (.lit (.string s))
 len:∀e s,e.length<=hN (.slice e s)
 sl:∀e s x,x∈e->hN x<=hN (.slice e s)
 agg:∀ps x,x∈ps->hN x<=hN (.agg ps)
def DL(w:World):List V->List Value->Prop
 | [],[]=>True
 |x::xs,v::vs=>(DRel (pK w) x v/\xI v)/\DL w xs vs
 |_,_=>False
theorem DL.len:∀{xs:List V} {vs:List Value},DL w xs vs->xs.length=vs.length
 | [],[],_=>rfl
 |x::xs,v::vs,h=>by simp[DL.len h.2]
 | [],_::_,h=>h.elim
 |_::_,[],h=>h.elim
theorem DL.get:∀{xs:List V} {vs:List Value},DL w xs vs->∀{j:Nat} {x:V},xs[j]?=some x->∃v,vs[j]?=some v/\DRel (pK w) x v/\xI v
 | [],[],_,j,x,hx=>by simp at hx
 |x::xs,v::vs,h,0,y,hy=>by simp at hy;subst hy;exact⟨v,rfl,h.1⟩
 |x::xs,v::vs,h,j+1,y,hy=>by obtain⟨u,O,U⟩:=DL.get h.2 (j:=j) (by simpa using hy);grind
 | [],_::_,h,_,_,_=>h.elim
 |_::_,[],h,_,_,_=>h.elim
theorem DL.app:∀{xs ys:List V} {us vs:List Value},DL w xs us->DL w ys vs->DL w (xs++ys) (us++vs)
 | [],ys,[],vs,_,k=>k
 |x::xs,ys,u::us,vs,h,k=>⟨h.1,DL.app h.2 k⟩
 | [],_,_::_,_,h,_=>h.elim
 |_::_,_,[],_,h,_=>h.elim
variable (enc P w) in
def Rd(hN:DataW H->Nat)(h0 n:Nat)(t:TypeId)(hu:List V->Prop):Prop :=
 ∀qm cs d ps,qm<=n->DataW.trod enc P w 0 (λ_=>true) true qm t cs=some (d,ps)->hN d<=h0->∃xs,DL w xs cs/\hu xs
variable {hN:DataW H->Nat} {h0 n:Nat} {t:TypeId}
section
variable{hu:List V->Prop}
theorem Rd.mono{Q':List V->Prop}(h:Rd enc P w hN h0 n t hu)(hq:∀xs,hu xs->Q' xs):Rd enc P w hN h0 n t Q':=λqm cs d ps hf ht hb=>by obtain⟨xs,O,U⟩:=h qm cs d ps hf ht hb;grind
theorem Rd.le{m:Nat}(h:Rd enc P w hN h0 n t hu)(hm:m<=n):Rd enc P w hN h0 m t hu:=λqm cs d ps hf=>h qm cs d ps (jh hf hm)
theorem Rd.zero:Rd enc P w hN h0 0 t hu:=λqm cs d ps hf ht=>by have:qm=0:=J;subst this;simp[DataW.trod]at ht
def jL(k:IntKind)(xs:List V):Prop:=∃hI,xs=[.val (.int k hI)]/\k.min<=hI/\hI<=k.max
def Hg(xs:List V):Prop:=∃b,xs=[.val (.bool b)]
def sJ(h0:Nat)(xs:List V):Prop:=∃s:ByteArray,xs=[.val (.string s)]/\s.size<=h0
def VI(h0:Nat)(hu:List V->Prop)(xs:List V):Prop:=∃S,xs=[.slice S]/\S.length<=h0/\∀r,r∈S->hu r
theorem Sg{k:IntKind}(hk:k≠.u64)(ht:P.underlying t=some (.int k)):Rd enc P w hN h0 n t (jL k):=λqm cs d ps _ h _=>by
 cases qm with
 |zero=>simp[DataW.trod]at h
 |succ f =>
  unfold DataW.trod at h;simp only[ht]at h;split at h
  all_goals first
   |(exfalso;rename_i e;simp at e;done)
   |skip
  .rename_i k0 k1 hI e;cases e;split at h
   .rename_i hc;obtain⟨rfl,hw⟩:=hc;simp only[Lit.wf,gy,jm]at hw;exact⟨[.val (.int _ hI)],⟨⟨.val _ rfl rfl,λm e=>by cases e;exact hk rfl⟩,trivial⟩,hI,rfl,hw⟩
   cases h
  all_goals cases h
theorem Xp(ht:P.underlying t=some .bool):Rd enc P w hN h0 n t Hg:=λqm cs d ps _ h _=>by
 cases qm with
 |zero=>simp[DataW.trod]at h
 |succ f =>
  unfold DataW.trod at h;simp only[ht]at h;split at h
  all_goals first
   |(exfalso;rename_i e;simp at e;done)
   |skip
  .rename_i b _;exact⟨[.val (.bool b)],⟨⟨.val _ rfl rfl,λm e=>by cases e⟩,trivial⟩,b,rfl⟩
  all_goals cases h
theorem Y7(hB:Bulk hN)(hL:h0<=68719476736)(ht:P.underlying t=some .string):Rd enc P w hN h0 n t (sJ h0):=λqm cs d ps _ h hb=>by
 cases qm with
 |zero=>simp[DataW.trod]at h
 |succ f =>
  unfold DataW.trod at h;simp only[ht]at h;split at h
  all_goals first
   |(exfalso;rename_i e;simp at e;done)
   |skip
  .rename_i s _;split at h
   .cases h;have O:=hB.str s.data.toList;have U:s.size=s.data.toList.length:=rfl;have h3:s.size<=h0:=J;have h4:s.size<=68719476736:=jh h3 hL;exact⟨[.val (.string s)],⟨⟨.val _ rfl (by grind[iU]),λm e=>by cases e⟩,trivial⟩,s,rfl,h3⟩
   cases h
  all_goals cases h
theorem CH{α β:Type}{f:α->Option β}:∀{l:List α} {r:List β},l.mapM f=some r->r.length=l.length/\∀(i:Nat) (x:α),l[i]?=some x->∃y,r[i]?=some y/\f x=some y
 | [],r,h=>by grind
 |x::l,r,h=>by rw[List.mapM_cons]at h;simp only[Option.bind_eq_bind,qi9,Option.pure_def,js]at h;obtain⟨y,hy,r',G,rfl⟩:=h;obtain⟨O,U⟩:=CH G;grind
theorem AS{n i:Nat}(h:i<n):(List.range n)[i]?=some i:=cn
theorem GR{a:Addr}{n:Nat}{cs:List Value}(h:w.cells? 0 a n=some cs):cs.length=n/\∀j v,cs[j]?=some v->w.cell? (a.add j)=some v:=by unfold World.cells? at h;rw[gh (il _)]at h;obtain⟨O,U⟩:=CH h;rw[qj8]at O;refine⟨O,λj v hv=>?_⟩;have hj:j<n:=W;obtain⟨y,h3,h4⟩:=U j j (AS hj);grind
theorem RL{a:Addr}{v:Value}(h:w.cell? a=some v):a.spot=none:=by
 unfold World.cell? at h;split at h
 .simp_all
 cases h
theorem Qj(a:Addr)(i j:Nat)(hs:a.spot=none):(a.add i).add j=⟨a.block,a.off+i+j,none⟩:=by obtain⟨b,o,s⟩:=a;simp only at hs;subst hs;unfold Addr.add;grind
theorem NC(hB:Bulk hN)(hL:h0<=68719476736){e:TypeId}(ht:P.underlying t=some (.slice e)){sz:Nat}(p6:P.cellsOf e=sz)(L:0<sz)(hl:∀xs,hu xs->xs.length=sz)(he:Rd enc P w hN h0 n e hu) :
  Rd enc P w hN h0 n t (VI h0 hu):=λqm cs d ps hf h hb=>by
 cases qm with
 |zero=>simp[DataW.trod]at h
 |succ f =>
  unfold DataW.trod at h;simp only[ht]at h;split at h
  all_goals first
   |(exfalso;rename_i e;simp at e;done)
   |skip
  .exact⟨[.slice []],⟨⟨.nil,λm e=>by cases e⟩,trivial⟩,[],rfl,il _,Z⟩
  .rename_i e' a len cap e1;cases e1;simp only[p6,iz]at h;split at h
   .rename_i hc;obtain⟨_,hlc,r9⟩:=hc;simp only[qi9,iy]at h;obtain⟨vL,hel,rest,hre,hx⟩:=h;cases hx;obtain⟨e2,e3⟩:=CH hel;obtain⟨r2,r3⟩:=CH hre;rw[qj8]at e2 r2;have oy:=hB.len (vL.map (·.1)) (rest.map (·.1))
    rw[ka]at oy;have hspot:∀k y,((w.cells? 0 (a.add (k * sz)) sz).bind (DataW.trod enc P w 0 (λ_=>true) true f e))=some y->k=0->a.spot=none:=by exact Qdj
    by_cases hz:cap=0
    .have eE:len=0:=J;subst eE;subst hz;exact⟨[.slice []],⟨⟨.empty a,λm e=>by cases e⟩,trivial⟩,[],rfl,il _,Z⟩
    have hs:a.spot=none:=by
     by_cases eE:len=0
     .subst eE;obtain⟨y,_,hy⟩:=r3 0 0 (AS J);grind
     obtain⟨y,_,hy⟩:=e3 0 0 (AS J);grind
    have td:∀i,i<len->∃xs,hu xs/\∀(j:Nat) (x:V),xs[j]?=some x->∃v,w.cell? ⟨a.block,a.off+i * sz+j,none⟩=some v/\DRel (pK w) x v/\xI v:=by
     intro i hi;obtain⟨y,hy,hy2⟩:=e3 i i (AS hi);rw[qi9]at hy2;obtain⟨cs,su,htr⟩:=hy2;have hm:y.1∈vL.map (·.1):=qi8 (gw hy)
     obtain⟨xs,hd,hq⟩:=he f cs y.1 y.2 J htr (jh (hB.sl _ _ _ hm) hb);refine⟨xs,hq,λj x hx=>?_⟩;obtain⟨v,hv,hd1,pG⟩:=hd.get hx;have:=(GR su).2 j v hv;grind[Qj]
    obtain⟨S,u3,hrp⟩:=Ed (λi xs=>hu xs/\∀(j:Nat) (x:V),xs[j]?=some x->∃v,w.cell? ⟨a.block,a.off+i * sz+j,none⟩=some v/\DRel (pK w) x v/\xI v) len td;have s6:∀(i j:Nat) (r:List V) (x:V),S[i]?=some r->r[j]?=some x->w.cell? ⟨a.block,a.off+i * sz+j,none⟩=some ((w.cell? ⟨a.block,a.off+i * sz+j,none⟩).getD undef)/\DRel (pK w) x ((w.cell? ⟨a.block,a.off+i * sz+j,none⟩).getD undef)/\xI ((w.cell? ⟨a.block,a.off+i * sz+j,none⟩).getD undef):=W;have hlL:len<=h0:=J;have hq:∀r,r∈S->hu r:=λr G=>by grind[iw]
    refine⟨[.slice S],⟨⟨?_,λm e=>by cases e⟩,trivial⟩,S,rfl,J,hq⟩;obtain⟨ab,ao,asp⟩:=a;simp only at hs;subst hs;subst u3;exact .slice S ab ao cap sz (λi j=>(w.cell? ⟨ab,ao+i * sz+j,none⟩).getD undef) (λr G=>hl r (hq r G)) (jh hlL hL) hlc (λi j r x G hx=>P7 (s6 i j r x G hx).1 (s6 i j r x G hx).2.2) (λi j r x G hx=>(s6 i j r x G hx).2.1)
   cases h
  all_goals cases h
end
variable (enc P w) in
def oI(hN:DataW H->Nat)(h0 n:Nat):Nat->List Field->List (List V->Prop)->Nat->Prop
 |o,[],[],e=>o=e
 |o,f::fs,hu::Qs,e=>f.offset=o/\(∃k,P.cellsOf f.type=k/\Rd enc P w hN h0 n f.type hu/\(∀xs,hu xs->xs.length=k)/\oI hN h0 n (o+k) fs Qs e)
 |_,_,_,_=>False
section
variable{Qs:List (List V->Prop)}{ps:List (List V)}{g:Nat}{tab:Array Value}{T:TypeId}
def Cc:List (List V)->List (List V->Prop)->Prop
 | [],[]=>True
 |p::ps,hu::Qs=>hu p/\Cc ps Qs
 |_,_=>False
theorem M5{f:Nat}(hfn:f<=n)(cs:List Value):∀{fs:List Field} {Qs:List (List V->Prop)} {o:Nat} {xs:List (DataW H×List MemPlace)},oI enc P w hN h0 n o fs Qs cs.length ->
  fs.mapM (λx=>DataW.trod enc P w 0 (λ_=>true) true f x.type ((cs.drop x.offset).take (P.cellsOf x.type)))=some xs->(∀x,x∈xs->hN x.1<=h0) ->
  ∃ps,Cc ps Qs/\DL w ps.flatten (cs.drop o)
 | [],[],o,xs,h,hm,_=>⟨[],trivial,by
   have:o=cs.length:=h;rw[this,List.drop_length];exact trivial⟩
 |x::fs,hu::Qs,o,xs,h,hm,hb=>by obtain⟨rfl,k,rfl,G,hql,tY⟩:=h;rw[List.mapM_cons]at hm;simp only[Option.bind_eq_bind,qi9,Option.pure_def,js]at hm;obtain⟨y,hy,r',o6,rfl⟩:=hm;obtain⟨ps,p1,p2⟩:=M5 hfn cs tY o6 λhI hz=>hb hI (by simp[hz]);obtain⟨q,q1,q2⟩:=G f _ y.1 y.2 hfn hy (hb y Z);refine⟨q::ps,⟨q2,p1⟩,?_⟩;grind[List.flatten_cons,List.drop_drop,me,DL.app]
 | [],_::_,_,_,h,_,_=>h.elim
 |_::_,[],_,_,h,_,_=>h.elim
theorem uJ(hB:Bulk hN){fs:Array Field}(ht:P.underlying t=some (.struct fs))(hF:oI enc P w hN h0 n 0 fs.toList Qs (P.cellsOf t)) :
  Rd enc P w hN h0 (n+1) t λxs=>∃ps,Cc ps Qs/\xs=ps.flatten:=λqm cs d ps hf h hb=>by
 cases qm with
 |zero=>simp[DataW.trod]at h
 |succ f =>
  unfold DataW.trod at h;simp only[ht]at h;split at h
  .rename_i hc;simp only[iy]at h;obtain⟨xs,hx,e2⟩:=h;cases e2;rw[<-hc]at hF;obtain⟨qs,O,U⟩:=M5 (f:=f) J cs hF hx λx um=>jh (hB.agg _ _ (qi8 um)) hb;exact⟨qs.flatten,by simpa using U,qs,O,rfl⟩
  cases h
theorem v8{hu:List V->Prop}(h:Cc ps (hu::Qs)):∃p ps',ps=p::ps'/\hu p/\Cc ps' Qs:=by
 cases ps with
 |nil=>exact h.elim
 |cons p ps'=>exact⟨p,ps',rfl,h.1,h.2⟩
theorem vG(h:Cc ps []):ps=[]:=by
 cases ps with
 |nil=>rfl
 |cons p ps'=>exact h.elim
theorem nJ{k:IntKind}:∀xs,jL k xs->xs.length=1:=by rintro _ ⟨hI,rfl,_⟩;rfl
theorem qql:∀xs,Hg xs->xs.length=1:=by rintro _ ⟨hI,rfl⟩;rfl
theorem xP{h0:Nat}:∀xs,sJ h0 xs->xs.length=1:=by rintro _ ⟨hI,rfl,_⟩;rfl
theorem JV{α:Type}{c:α->List V}{iI:α->Prop}:∀{S:List (List V)},(∀r,r∈S->∃a,r=c a/\iI a)->∃l:List α,S=l.map c/\∀a∈l,iI a
 | [],_=>⟨[],rfl,Z⟩
 |r::S,h=>by
  obtain⟨a,rfl,ha⟩:=h r Z;obtain⟨l,rfl,hl⟩:=JV (S:=S) λr G=>h r fb;refine⟨a::l,rfl,λb hb=>?_⟩;rcases iq.1 hb with rfl|hb
  .exact ha
  exact hl b hb
def sX(w:World)(g:Nat):Ctx:=⟨pK w,λi=>if i=0 then some g else none,λ_ _=>none⟩
theorem qmt{x:Nat×Nat}(hg:w.heap[g]?=some (.cells tab T x))(htab:∀(j:Nat) (v:Value),tab[j]?=some v->∃n,v=.int .u64 n) :
  HSim (sX w g) [.raw g (λ_=>.cells tab T x) []] w where
 data:=λb j v h=>(Mm h).1
 dom:=λi hi=>by
  have:i≠0:=W
  simp_all[sX]
 obj:=λi o hi=>by
  cases i with
  |zero =>
   simp at hi;subst hi;exact⟨by simp[sX],#[],hg,rfl,λj x v hx=>by simp at hx⟩
  |succ i=>simp at hi
 apart:=λi j o o' b hi hj _ _=>by grind
 sep:=λi o b j v hi hb hD=>by
  cases i with
  |zero =>
   simp at hi;subst hi;simp[ou,sX]at hb;subst hb;obtain⟨O,U⟩:=Mm hD;unfold World.cell? at O;simp only[hg]at O;have s7:tab[j]?=some v:=W;obtain⟨n,rfl⟩:=htab j v s7;exact(U n rfl).elim
  |succ i=>simp at hi
theorem Qe{x:V}{v:Value}(h:DL w [x] [v]):Rel (sX w g) x v:=.data h.1.1
theorem Ye{xs:List V}{cs:Array Value}(h:DL w xs cs.toList):Rel (sX w g) (.agg xs) (.agg cs):=by
 have hl:=h.len;refine .agg xs cs W (λj v hv=>?_) λj x v hx hv=>?_
 .have hj:j<xs.length:=by
   grind
  obtain⟨u,O,U,_⟩:=h.get (j:=j) (x:=xs[j]) Z;have:cs.toList[j]?=some v:=W;rw[O]at this;cases this;exact U.one
 obtain⟨u,O,U,_⟩:=h.get hx;have:cs.toList[j]?=some v:=W;rw[O]at this;cases this;exact .data U
theorem UZ{f:FuncId}{args:Array Value}{avs:List V}{x:Nat×Nat}(hg:w.heap[g]?=some (.cells tab T x))(htab:∀(j:Nat) (v:Value),tab[j]?=some v->∃n,v=.int .u64 n)
  (G:RelL (sX w g) avs args) (hA:ACalls P f avs [.raw g (λ_=>.cells tab T x) []] λr Y=>r=.ret (.val (.bool true))/\Y=[.raw g (λ_=>.cells tab T x) []]) :
  Calls P f args w λe w'=>e=.returned (.bool true)/\RowKit.Below w.heap.size w w':=by
 refine(hA.2 _ w args (qmt hg htab) G).mono ?_;rintro e w' ⟨r,Y,c',⟨rfl,rfl⟩,hE,hs,ok⟩;refine⟨?_,ok.os,ok.tape,ok.output,ok.size,λk hk=>?_⟩
 .unfold EndR at hE;grind[Rel.val_inv]
 by_cases dG:k=g
 .subst dG;obtain⟨_,vs,O,U,_⟩:=hs.obj 0 _ rfl;grind
 refine ok.frame k hk λi o hi hb=>?_;cases i with
 |zero =>
  simp at hi;grind[ou,sX]
 |succ i=>simp at hi
end
end
section
variable {H:Type} {enc:TypeId×Value->H} {P:Program} {w:World} {hN:DataW H->Nat} {h0 n:Nat} {t:TypeId}
def qm7(h0:Nat)(hu:Nat->List V->Prop)(xs:List V):Prop:=∃(S:List (List V)) (ae:List Nat),xs=[.slice S]/\ae.length=S.length/\S.length<=h0/\ae.sum<=h0/\∀(i:Nat) (r:List V) (k:Nat),S[i]?=some r->ae[i]?=some k->hu k r
def qnz(hB:Bulk hN)(hS:∀e s,(e.map hN).sum<=hN (.slice e s))(hL:h0<=68719476736){e:TypeId}(ht:P.underlying t=some (.slice e)){sz:Nat}(p6:P.cellsOf e=sz)(L:0<sz){hu:Nat->List V->Prop}(hl:∀k xs,hu k xs->xs.length=sz)(he:∀k,k<=h0->Rd enc P w hN k n e (hu k)) :
  Rd enc P w hN h0 n t (qm7 h0 hu):=λqm cs d ps hf h hb=>by
 cases qm with
 |zero=>simp[DataW.trod]at h
 |succ f =>
  unfold DataW.trod at h;simp only[ht]at h;split at h
  all_goals first
   |(exfalso;rename_i e;simp at e;done)
   |skip
  .exact⟨[.slice []],⟨⟨.nil,λm e=>by cases e⟩,trivial⟩,[],[],rfl,rfl,il _,il _,Z⟩
  .rename_i e' a len cap e1;cases e1;simp only[p6,iz]at h;split at h
   .rename_i hc;obtain⟨_,hlc,r9⟩:=hc;simp only[qi9,iy]at h;obtain⟨vL,hel,rest,hre,hx⟩:=h;cases hx;obtain⟨e2,e3⟩:=CH hel;obtain⟨r2,r3⟩:=CH hre;rw[qj8]at e2 r2;have oy:=hB.len (vL.map (·.1)) (rest.map (·.1))
    rw[ka]at oy;have hspot:∀k y,((w.cells? 0 (a.add (k * sz)) sz).bind (DataW.trod enc P w 0 (λ_=>true) true f e))=some y->k=0->a.spot=none:=by exact Qdj
    by_cases hz:cap=0
    .have eE:len=0:=J;subst eE;subst hz;exact⟨[.slice []],⟨⟨.empty a,λm e=>by cases e⟩,trivial⟩,[],[],rfl,rfl,il _,il _,Z⟩
    have hs:a.spot=none:=by
     by_cases eE:len=0
     .subst eE;obtain⟨y,_,hy⟩:=r3 0 0 (AS J);exact hspot (0+0) y hy rfl
     obtain⟨y,_,hy⟩:=e3 0 0 (AS J);exact hspot 0 y hy rfl
    have td:∀i,i<len->∃xs,hu (hN ((vL[i]?).map (·.1)|>.getD .nil)) xs/\∀(j:Nat) (x:V),xs[j]?=some x->∃v,w.cell? ⟨a.block,a.off+i * sz+j,none⟩=some v/\DRel (pK w) x v/\xI v:=by
     intro i hi;obtain⟨y,hy,hy2⟩:=e3 i i (AS hi);rw[qi9]at hy2;obtain⟨cs,su,htr⟩:=hy2;have hm:y.1∈vL.map (·.1):=qi8 (gw hy)
     obtain⟨xs,hd,hq⟩:=he (hN y.1) (jh (hB.sl _ _ _ hm) hb) f cs y.1 y.2 J htr (gj _);refine⟨xs,by rw[hy];exact hq,λj x hx=>?_⟩;obtain⟨v,hv,hd1,pG⟩:=hd.get hx;have:=(GR su).2 j v hv;rw[Qj _ _ _ hs]at this;exact⟨v,this,hd1,pG⟩
    obtain⟨S,u3,hrp⟩:=Ed (λi xs=>hu (hN ((vL[i]?).map (·.1)|>.getD .nil)) xs/\∀(j:Nat) (x:V),xs[j]?=some x->∃v,w.cell? ⟨a.block,a.off+i * sz+j,none⟩=some v/\DRel (pK w) x v/\xI v) len td
    have s6:∀(i j:Nat) (r:List V) (x:V),S[i]?=some r->r[j]?=some x->w.cell? ⟨a.block,a.off+i * sz+j,none⟩=some ((w.cell? ⟨a.block,a.off+i * sz+j,none⟩).getD undef)/\DRel (pK w) x ((w.cell? ⟨a.block,a.off+i * sz+j,none⟩).getD undef)/\xI ((w.cell? ⟨a.block,a.off+i * sz+j,none⟩).getD undef):=W;have hlL:len<=h0:=J;have hq:∀r,r∈S->r.length=sz:=λr G=>by grind[iw]
    have hsum:((vL.map (·.1)).map hN).sum<=h0:=jh (hS _ _) hb
    have nz:∀(i:Nat) (r:List V) (k:Nat),S[i]?=some r->((vL.map (·.1)).map hN)[i]?=some k->hu k r:=λi r k G hk=>by grind
    refine⟨[.slice S],⟨⟨?_,λm e=>by cases e⟩,trivial⟩,S,(vL.map (·.1)).map hN,rfl,by simp[u3,e2],J,hsum,nz⟩
    obtain⟨ab,ao,asp⟩:=a;simp only at hs;subst hs;subst u3;exact .slice S ab ao cap sz (λi j=>(w.cell? ⟨ab,ao+i * sz+j,none⟩).getD undef) (λr G=>hq r G) (jh hlL hL) hlc (λi j r x G hx=>P7 (s6 i j r x G hx).1 (s6 i j r x G hx).2.2) (λi j r x G hx=>(s6 i j r x G hx).2.1)
   cases h
  all_goals cases h
end
