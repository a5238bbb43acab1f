/- Part 10 of a proof. -/
import Derived.Test.YtolejdhnnchfpaaGreatDoorQ09
set_option linter.all false
namespace Go.Abs
def tmpsOf(l:List Operand):List Tmp:=l.filterMap λ| .tmp t=>some t|_=>none
def quz(l:List Oper)(o:Oper):List Tmp :=
 match o.guard with
 |some (j,_)=>((l[j]?).bind (·.dst)).toList
 |none=>[]
def sh(b:Array Nat)(i j:Nat):Bool:=(b.getD j 0).testBit i
def qs4(l:List Oper):Bool :=
 let b:=Region.before l.toArray
 let z:=l.zipIdx
 (z.all λp=>p.1.after.all λe=>!Region.binds .any e||e.on<p.2) &&
 (z.all λp=>(tmpsOf p.1.op.operands.toList++quz l p.1).all λt=>z.all λq=>q.1.dst != some t||q.2 == p.2||sh b (min p.2 q.2) (max p.2 q.2)) &&
 (z.all λp=>z.all λq=>q.2 == p.2||p.1.dst == none||p.1.dst != q.1.dst) &&
 (z.all λp=>z.all λq=>!(p.2<q.2)||!(qrp p.1.op&&qrp q.1.op)||sh b p.2 q.2) &&
 (z.all λp=>match p.1.guard with|some (j,_)=>j<p.2|none=>true)
structure DrawOk(l:List Oper):Prop where
 after:∀(j:Nat) (o:Oper),l[j]?=some o->∀e,e∈o.after->Region.binds .any e=true->e.on<j
 temps:∀(j:Nat) (o:Oper) (t:Tmp) (i:Nat) (o':Oper),l[j]?=some o->t∈tmpsOf o.op.operands.toList++quz l o->l[i]?=some o'->o'.dst=some t->i=j\/sh (Region.before l.toArray) (min j i) (max j i)=true
 uniq:∀(j:Nat) (o:Oper) (i:Nat) (o':Oper),l[j]?=some o->l[i]?=some o'->o.dst≠none->o.dst=o'.dst->i=j
 stores:∀(j:Nat) (o:Oper) (i:Nat) (o':Oper),l[j]?=some o->l[i]?=some o'->j<i->qrp o.op=true->qrp o'.op=true->sh (Region.before l.toArray) j i=true
 guard:∀(j:Nat) (o:Oper) (k:Nat) (want:Bool),l[j]?=some o->o.guard=some (k,want)->k<j
theorem qc3{l:List Oper}{j:Nat}{o:Oper}(h:l[j]?=some o):(o,j)∈l.zipIdx:=af
theorem qx3{l:List Oper}(h:qs4 l=true):DrawOk l:=by
 simp only[qs4,cw,dr]at h;obtain⟨⟨⟨⟨h1,h2⟩,h3⟩,h4⟩,h5⟩:=h;refine⟨λj o hj e he hb=>?_,λj o t i o' hj ht hi hd=>?_,λj o i o' hj hi hn hd=>?_,λj o i o' hj hi il hs jg=>?_,λj o k want hj hg=>?_⟩
 .have:=h1 (o,j) (qc3 hj);simp only[qj9]at this;have:=this e he;simpa[hb]using this
 .have:=h2 (o,j) (qc3 hj) t ht (o',i) (qc3 hi);simp only[hd,bne_self_eq_false,qi0,gu,beq_iff_eq]at this;exact this
 .have:=h3 (o,j) (qc3 hj) (o',i) (qc3 hi);simp only[gu,beq_iff_eq,bne_iff_ne,ne_eq]at this;rcases this with(h|h)|h
  .exact h
  .grind
  .grind
 .have:=h4 (o,j) (qc3 hj) (o',i) (qc3 hi);simpa[il,hs,jg]using this
 .have:=h5 (o,j) (qc3 hj);simp only[hg]at this;simpa using this
theorem xmt(l:List Oper):∀j i,sh (Region.before l.toArray) i j=true->∃o,l[j]?=some o/\∃e,e∈o.after/\Region.binds .any e=true/\(e.on=i\/(e.on<j/\sh (Region.before l.toArray) i e.on=true)):=by
 have inner:∀(es:List Edge) (iw:Array Nat) (s i:Nat),(es.foldl (λs e=>if Region.binds .any e then s ||| 2 ^ e.on ||| iw.getD e.on 0 else s) s).testBit i=true->s.testBit i=true\/∃e,e∈es/\Region.binds .any e=true/\(e.on=i\/(iw.getD e.on 0).testBit i=true):=by
  intro es
  induction es with
  |nil=>intro iw s i h;exact .inl h
  |cons e es ih =>
   intro iw s i h;rw[fj]at h;rcases ih iw _ i h with h1|⟨e',he',h2⟩
   .grind
   .grind
 have outer:∀(rest done:List Oper) (iw:Array Nat),iw.size=done.length->(∀j i,(iw.getD j 0).testBit i=true->∃o,done[j]?=some o/\∃e,e∈o.after/\Region.binds .any e=true/\(e.on=i\/(e.on<j/\(iw.getD e.on 0).testBit i=true))) ->
   ∀j i,((rest.foldl (λiw o=>iw.push (o.after.foldl (λs e=>if Region.binds .any e then s ||| 2 ^ e.on ||| iw.getD e.on 0 else s) 0)) iw).getD j 0).testBit i=true ->
    ∃o,(done++rest)[j]?=some o/\∃e,e∈o.after/\Region.binds .any e=true/\(e.on=i\/(e.on<j/\((rest.foldl (λiw o=>iw.push (o.after.foldl (λs e=>if Region.binds .any e then s ||| 2 ^ e.on ||| iw.getD e.on 0 else s) 0)) iw).getD e.on 0).testBit i=true)):=by
  intro rest
  induction rest with
  |nil=>intro done iw _ h;simpa using h
  |cons o rest ih =>
   intro done iw jx h;rw[fj];have:=ih (done++[o]) (iw.push (o.after.foldl (λs e=>if Region.binds .any e then s ||| 2 ^ e.on ||| iw.getD e.on 0 else s) 0)) (by simp[jx]) (λj i su=>by
    have px:∀m,m<iw.size->(iw.push (o.after.foldl (λs e=>if Region.binds .any e then s ||| 2 ^ e.on ||| iw.getD e.on 0 else s) 0)).getD m 0=iw.getD m 0:=λm hm=>by
     simp only[dz,Array.getElem?_push];rw[if_neg aa]
    have qsp:∀m i,(iw.getD m 0).testBit i=true->m<iw.size:=λm i hm=>by grind
    by_cases hj:j<iw.size
    .rw[px j hj]at su;obtain⟨o',h1,e,h2,h3,h4⟩:=h j i su;refine⟨o',by rw[co aa];exact h1,e,h2,h3,?_⟩;rcases h4 with h4|⟨h4,h5⟩
     .omega
     .grind
    .have ny:j=iw.size:=by
      rcases ei iw.size j with h'|h'
      .grind
      .omega
     subst ny;rw[dz,Array.getElem?_push,if_pos rfl]at su;simp only[gq]at su;rw[<-qj7]at su;rcases inner _ iw 0 i su with h1|⟨e,h1,h2,h3⟩
     .simp at h1
     .refine⟨o,by rw[jx];simp,e,bw,h2,?_⟩;rcases h3 with h3|h3
      .exact .inl h3
      .exact .inr ⟨qsp _ _ h3,by rw[px _ (qsp _ _ h3)];exact h3⟩)
   simpa using this
 intro j i h;have:=outer l [] #[] rfl (λj i h=>by simp at h) j i (by
  unfold sh Region.before at h;rw[<-qj7]at h;exact h)
 unfold sh Region.before;rw[<-qj7];simpa using this
def qku(l:List Oper)(X:Nat->Bool):Prop:=∀j o,X j=true->l[j]?=some o->∀e,e∈o.after->Region.binds .any e=true->X e.on=true
theorem qly{l:List Oper}{X:Nat->Bool}(hX:qku l X):∀j i o,l[j]?=some o->(∀e,e∈o.after->Region.binds .any e=true->X e.on=true)->sh (Region.before l.toArray) i j=true->X i=true:=by
 intro j
 induction j using Nat.strongRecOn with
 |_ j ih =>
  intro i o hj iz h;obtain⟨o',h1,e,h2,h3,h4⟩:=xmt l j i h;rw[hj]at h1;cases h1;have hXe:=iz e h2 h3;rcases h4 with rfl|⟨h4,h5⟩
  .exact hXe
  .obtain⟨o2,g1,_⟩:=xmt l e.on i h5;exact ih e.on h4 i o2 g1 (hX e.on o2 hXe g1) h5
def AObj.isArr:AObj->Bool
 | .arr .. | .uarr .. | .oarr ..=>true
 |_=>false
def qsm(h h':g9):Prop:=∀(i:Nat) (o:AObj),o.isArr=true->(h[i]?=some o↔h'[i]?=some o)
mutual
theorem qzt{h h':g9}(hh:qsm h h'):∀x:AV,x.norm h=x.norm h'
 | .nils| .top| .val _| .slice _| .ptr _ _| .eptr _| .lit _| .cap _| .mapr _| .fn _ _ _| .opt _ _| .optr ..=>rfl
 | .agg xs| .tuple xs=>by simp only[AV.norm,xfo hh xs]
 | .iface t v=>by simp only[AV.norm,qzt hh v]
 | .own i n=>by
  simp only[AV.norm];split
  .rename_i e sz rows hi;rw[(hh i _ rfl).1 hi]
  .rename_i kf;split
   .rename_i e sz rows hi;exact(kf e sz rows ((hh i _ rfl).2 hi)).elim
   .rfl
theorem xfo{h h':g9}(hh:qsm h h'):∀xs:List AV,ko h xs=ko h' xs
 | []=>rfl
 |x::xs=>by simp only[ko,qzt hh x,xfo hh xs]
end
theorem xn8{h h':g9}(hh:qsm h h')(sz:Nat):∀(k:Nat) (l:List (Nat×AV)),qpj h sz k l=qpj h' sz k l
 |_,[]=>rfl
 |k,(i,x)::l=>by simp only[qpj,xfo hh,xn8 hh sz (k+1) l]
theorem jd9{P:Program}{T:TypeId}{x i:AV}{ok:Bool}{h h':g9}(hm:∀(i:Nat) (es:List (AV×AV)),h[i]?=some (.map es)↔h'[i]?=some (.map es)):qub P T x i ok h=qub P T x i ok h':=by
 unfold qub;split
 .grind
 .rfl
theorem xf2{α:Type}{h h':g9}(hh:qsm h h')(i:Nat)(k:Option AObj->α)(k0:α)(hk:∀o,(∀e sz rows,o≠some (AObj.uarr e sz rows))->(∀e sz rows,o≠some (AObj.oarr e sz rows))->k o=k0):k h[i]?=k h'[i]?:=by
 by_cases hu:∃e sz rows,h[i]?=some (AObj.uarr e sz rows)
 .obtain⟨e,sz,rows,hi⟩:=hu;rw[hi,(hh i _ rfl).1 hi]
 .by_cases wo:∃e sz rows,h'[i]?=some (AObj.uarr e sz rows)
  .obtain⟨e,sz,rows,hi⟩:=wo;exact(hu ⟨e,sz,rows,(hh i _ rfl).2 hi⟩).elim
  .by_cases hp:∃e sz rows,h[i]?=some (AObj.oarr e sz rows)
   .obtain⟨e,sz,rows,hi⟩:=hp;rw[hi,(hh i _ rfl).1 hi]
   .by_cases hp':∃e sz rows,h'[i]?=some (AObj.oarr e sz rows)
    .obtain⟨e,sz,rows,hi⟩:=hp';exact(hp ⟨e,sz,rows,(hh i _ rfl).2 hi⟩).elim
    .grind
theorem xva{P:Program}{T:TypeId}{x i:AV}{h h':g9}(hh:qsm h h'):qd9 P T x i h=qd9 P T x i h':=by
 unfold qd9;split<;>try rfl
 rename_i e sz o m k n hk;exact xf2 hh o (λob=>match ob with
  |some (.uarr _ ky rows)=>(⟨rows.length=m/\ky=sz/\0<=n/\n.toNat<rows.length/\0<sz,.optr o m sz n.toNat 0⟩:SV)
  |some (.oarr _ ky rows)=>(⟨rows.length=m/\ky=sz/\0<=n/\n.toNat<rows.length/\0<sz,.optr o m sz n.toNat 0⟩:SV)
  |_=>.no) .no λob hob hob2=>by simp
theorem map_congr{α:Type}{h h':g9}(hm:∀(i:Nat) (es:List (AV×AV)),h[i]?=some (.map es)↔h'[i]?=some (.map es))(i:Nat)(k:Option AObj->α)(k0:α)(hk:∀o,(∀es,o≠some (AObj.map es))->k o=k0):k h[i]?=k h'[i]?:=af
theorem jip{P:Program}{T:TypeId}{x:AV}{h h':g9}(hh:qsm h h')(hm:∀(i:Nat) (es:List (AV×AV)),h[i]?=some (.map es)↔h'[i]?=some (.map es)):qun P T x h=qun P T x h':=by
 unfold qun;split<;>try rfl
 rotate_left
 .grind
 rename_i e sz o m hk;exact xf2 hh o (λob=>match ob with
  |some (.uarr _ _ rows)=>(⟨rows.length=m,.val (.int .i64 rows.length)⟩:SV)
  |some (.oarr _ _ rows)=>(⟨rows.length=m,.val (.int .i64 rows.length)⟩:SV)
  |_=>.no) .no λob hob hob2=>by simp
theorem jag{P:Program}{e:Env}{h h':g9}{op:Op}(ha:qsm h h')(hr:∀i,qxe e op=some i->h[i]?=h'[i]?)(hm:∀(i:Nat) (es:List (AV×AV)),h[i]?=some (.map es)↔h'[i]?=some (.map es)):qg P e.getS h op=qg P e.getS h' op:=by
 cases op with
 |load t a =>
  simp only[qg,quj];simp only[qxe]at hr;cases ha:e.getS a with
  |ptr i off =>
   simp only[ha]at hr;simp only[hr i rfl]
  |optr i n sz r q =>
   exact xf2 ‹qsm h h'› i (λob=>match ob with
    |some (.uarr _ ky rows)=>(⟨rows.length=n/\ky=sz/\r<rows.length/\(qlb (jd P t) (im P t).agg ((rows.getD r []).drop q)).side/\im P t≠TK.other,(qlb (jd P t) (im P t).agg ((rows.getD r []).drop q)).val⟩:SV)
    |some (.oarr _ ky rows)=>(⟨rows.length=n/\ky=sz/\r<rows.length/\(qlb (jd P t) (im P t).agg ((rows.getD r []).drop q)).side/\im P t≠TK.other,(qlb (jd P t) (im P t).agg ((rows.getD r []).drop q)).val⟩:SV)
    |_=>.no) .no λob hob hob2=>by simp
  |_=>rfl
 |lookup T x i ok =>
  simp only[qg];exact jd9 hm
 |indexAddr T x i=>simp only[qg,qzt ha,xva ha]
 |slice T x lo hi mx=>simp only[qg,qzt ha]
 |call c =>
  obtain⟨callee,args,ts⟩:=c;cases callee with
  |builtin b=>cases b with
   |len=>simp only[qg,qzt ha,jip ha hm]
   |_=>rfl
  |_=>rfl
 |unOp op t x=>cases op<;>rfl
 |_=>rfl
section
variable {P:Program} {E:Ent}
theorem xv9{c:Ctx}{h:g9}{a:Act}{w:World}(hs:HSim c h w)(k:E.ok c h w){o:Oper}{f:Operand}{args:Array Operand}{ts:Array TypeId}(ho:o.op=.call { callee:=.value f,args:=args,argTypes:=ts })
  {g:Operand->AV} (jr:∀x,x∈f::args.toList->Rel c (g x) (a.eval x)) {fid:FuncId} {first caps:List AV} (hf:g f=.fn (.func fid) first caps) {R:AEnd->g9->Prop}
  (hc:ACalls P fid (ko h (first++args.toList.map g++caps)) h R) {next:Act->World->Prop} {Q:Exit->Act->World->Prop}
  (wd:∀v h' c' w' u,R (.ret v) h'->c.le c'->HSim c' h' w'->E.ok c' h' w'->Rel c' v u->next (a.put o.dst u) w') (qwb:∀v h',¬R (.panic v) h'):o.wp P a w next Q:=by
 have tq:=jr f ac;rw[hf]at tq;obtain⟨us,vs,hev,h1,h2⟩:∃us vs,a.eval f=.func (.func fid) us vs/\RelL c first us/\RelL c caps vs:=by
  generalize a.eval f=z at tq;cases tq with
  |data h=>cases h
  |fn f ys xs us vs po hl h' h=>exact⟨us,vs,rfl,⟨po,h'⟩,⟨hl,h⟩⟩
 have qqg:RelL c (args.toList.map g) (args.map a.eval):=RelL.map λx hx=>jr x bu;have qzi:=(RelL.app (RelL.app h1 qqg) h2).norm hs;obtain⟨s1,k1⟩:=qxo hs k;unfold Oper.wp;rw[qws ho hev hc.1];refine(hc.2 _ w _ s1 qzi).mono ?_;rintro en w' ⟨r,h',c',hR,hE,jg,kb⟩;have ij:c.le c':=(qww c h w).trans kb.ext;have kp:E.ok c' h' w':=k1.trans kb;cases r with
 |ret v =>
  cases en with
  |returned u=>exact wd v h' c' w' u hR ij jg kp hE
  |_=>simp[EndR]at hE
 |panic v=>exact(qwb v h' hR).elim
theorem xl2{ops:Array Oper}{l:List Oper}(vn:ops.toList=l){i:Nat}{c:Ctx}{e:Env}{a:Act}{o:Oper}(v7:∀j want,o.guard=some (j,want)->j<i)
  (hr:∀t,t∈quz l o->Rel c (ji e.t t) (a.tmps.getD t undef)) {G:Bool} (h:gB ((l.take i).map (·.dst)) e o.guard=some G):Region.wanted o (yielded ops a.tmps)=G:=by
 unfold gB at h;unfold Region.wanted;split at h
 .grind
 .rename_i j want hg;simp only[hg];have su:=v7 j want hg;split at h
  .rename_i t ht;have hj:(ops[j]?).bind (·.dst)=some t:=af
   have ny:(l[j]?).bind (·.dst)=some t:=af
   have hr:=hr t (by grind[quz]);have hy:∀b,a.tmps.getD t undef=.bool b->yielded ops a.tmps j=some b:=λb hb=>by
    unfold yielded;rw[hj];simp only[fp];simp only[dz]at hb;cases ht':a.tmps[t]? with
    |none=>rw[ht']at hb;simp[undef]at hb
    |some v=>rw[ht']at hb;simp at hb;subst hb;rfl
   split at h
   .rename_i b hb;rw[hb]at hr;rw[hy b hr.val_inv];simp only[eb]at h;rw[<-h];cases b<;>cases want<;>rfl
   .rename_i g b hb;rw[hb]at hr;simp only[eb]at h;cases g with
    |true =>
     have jf:Rel c (.val (.bool b)) (a.tmps.getD t undef):=by
      cases hr with
      |data h=>cases h
      |opt g x v h hn=>exact h rfl
     rw[hy b jf.val_inv,<-h];cases b<;>cases want<;>rfl
    |false =>
     have hu:a.tmps.getD t undef=undef:=by
      cases hr with
      |data h=>cases h
      |opt g x v h hn=>exact hn rfl
     have:yielded ops a.tmps j=none:=by
      unfold yielded;rw[hj];simp only[fp];simp only[dz]at hu;cases ht':a.tmps[t]? with
      |none=>rfl
      |some v=>rw[ht']at hu;simp at hu;subst hu;rfl
     rw[this,<-h];rfl
   .rename_i x hnb hb;rw[hb]at hr;simp only[eb]at h;have hu:a.tmps.getD t undef=undef:=by
     cases hr with
     |data h=>cases h
     |opt g x v h hn=>exact hn rfl
    have:yielded ops a.tmps j=none:=by
     unfold yielded;rw[hj];simp only[fp];simp only[dz]at hu;cases ht':a.tmps[t]? with
     |none=>rfl
     |some v=>rw[ht']at hu;simp at hu;subst hu;rfl
    rw[this,<-h];rfl
   .cases h
  .cases h
theorem qwl{N:Nat}{ds:List (Option Tmp)}{o:Oper}{e:Env}{K:DR->Prop}(h:ux P N ds o e K):zj N o.dst/\∃r,r.dst=o.dst/\K r/\((∃i off cs,r.k=.store i off cs)->qrp o.op=true):=by
 unfold ux at h;split at h
 .grind
 .grind[qrp]
def hX(R:List DR)(X:Nat->Bool)(h:g9):g9:=rr (ss X 0 R) (h++ni X 0 R)
structure DInv(E:Ent)(e0:Env)(R:List DR)(X:Nat->Bool)(c:Ctx)(a:Act)(w:World):Prop where
 defers:a.defers=[]
 size:a.tmps.size=E.N
 tmps:∀t,Rel c (ur X t 0 R (ji e0.t t)) (a.tmps.getD t undef)
 hs:HSim c (hX R X e0.h) w
 ok:E.ok c (hX R X e0.h) w
 nob:∀i r xs,R[i]?=some r->r.k=.fresh xs->X i=false->c.blk (e0.h.length+qmc R i)=none
 fit:∀r,r∈ss X 0 R->∀i off cs,r.k=.store i off cs->∃xs,(e0.h++ni X 0 R)[i]?=some (.cells xs)/\off+cs.length<=xs.length
theorem jhy(R:List DR)(X:Nat->Bool)(h:g9):(hX R X h).length=h.length+(ni X 0 R).length:=by simp[jkz,hX]
theorem xml{R:List DR}{X:Nat->Bool}{e0:Env}{i:Nat}:qsm (jb e0 (R.take i)).h (hX R X e0.h):=by
 intro j o hoa;have ng:∀xs,o≠AObj.cells xs:=λxs h=>by subst h;cases hoa
 have th:o≠AObj.none:=λh=>by subst h;cases hoa
 rw[qxl];unfold hX;rw[xck _ _ _ _ ng];by_cases hj:j<e0.h.length
 .grind
 .rw[cx aa,cx aa];constructor
  .grind[qc6]
  .intro h;obtain⟨i',r,xs,_,_,_,h4⟩:=qc6 _ _ _ _ h;rw[cz]at h4;cases hX:X i' with
   |true=>rw[hX]at h4;exact(ng xs h4).elim
   |false=>rw[hX]at h4;exact(th h4).elim
theorem xvy{R:List DR}{X:Nat->Bool}{e0:Env}{i:Nat}(j:Nat)(es:List (AV×AV)):(jb e0 (R.take i)).h[j]?=some (.map es)↔(hX R X e0.h)[j]?=some (.map es):=by
 rw[qxl];unfold hX;rw[xck _ _ _ _ ac];by_cases hj:j<e0.h.length
 .grind
 .rw[cx aa,cx aa];constructor
  .grind[qc6]
  .intro h;obtain⟨i',r,xs,_,_,_,h4⟩:=qc6 _ _ _ _ h;rw[cz]at h4;cases hX:X i'<;>simp[hX]at h4
theorem jio{R:List DR}{X:Nat->Bool}{e0:Env}{i:Nat}:xso (jb e0 (R.take i)).h (hX R X e0.h):=by
 intro j o ho;have ng:∀xs,o≠AObj.cells xs:=λxs h=>by subst h;cases ho
 rw[qxl];unfold hX;rw[xck _ _ _ _ ng];by_cases hj:j<e0.h.length
 .grind
 .grind[cx,qc6]
theorem jbh{c:Ctx}{h:g9}{w:World}(s:HSim c h w)(k:E.ok c h w){n:Nat}(hn:h[n]?=some .none)(hb:c.blk n=none)(hE:E.h.length<=n){xs:List AV}{vs:Array Value}(T:TypeId)(hc:qp0 c xs vs) :
  ∃c',c.le c'/\HSim c' (h.set n (.cells xs)) (w.alloc (.cells vs T))/\E.ok c' (h.set n (.cells xs)) (w.alloc (.cells vs T))/\c'.blk n=some w.heap.size/\∀i,i≠n->c'.blk i=c.blk i:=by
 have hw:∀b,b<w.heap.size->(w.alloc (.cells vs T)).heap[b]?=w.heap[b]?:=λb hb=>heap_alloc_old w _ b hb;have s1:HSim c h (w.alloc (.cells vs T)):=s.ext hw (.refl c) (λ_ _=>rfl) (λ_ _ _ h=>.inl h) s.dom;have k1:E.ok c h (w.alloc (.cells vs T)):=k.ext' s hw (.refl c) (λ_=>rfl) rfl rfl rfl (qdy w _) (λ_ _ _ h=>.inl h);have ij:c.le (c.addBlk n w.heap.size):=Ctx.addBlk_le hb;have r8:(c.addBlk n w.heap.size).blk n=some w.heap.size:=qfp;have il:n<h.length:=(cm.1 hn).1;have hbn:∀b',je (c.addBlk n w.heap.size) n (.cells xs)=some b'->b'=w.heap.size:=λb' iq=>by grind[je,eb]
 refine⟨_,ij,⟨s1.data,λi hi=>?_,λi o hi=>?_,λi j o o' b hi hj p9 hbj=>?_,λi o b j v hi p9 hD=>?_⟩,⟨k.edom,k.ext.trans ij,λm hm=>by
   simp only[Ctx.addBlk];rw[if_neg aa];exact k.blk0 m hm,bs,k1.os,k1.tape,k1.output,k1.size,k1.frame,λi o b hi p9=>?_,k1.dold⟩,r8,λi hi=>by simp[Ctx.addBlk,hi]⟩
 .have ke:h.length<=i:=qg7;have:=s.dom i ke;refine⟨?_,this.2⟩;simp only[Ctx.addBlk];rw[if_neg aa];exact this.1
 .rcases m7 hi with⟨rfl,rfl⟩|⟨it,h1⟩
  .exact⟨_,vs,T,r8,heap_alloc_new w _,hc.1,λj x v hx hv=>⟨(hc.2 j x v hx hv).1.mono ij,(hc.2 j x v hx hv).2⟩⟩
  .exact(s1.obj i o h1).keep ij (λ_=>rfl) λ_ _=>rfl
 .rcases m7 hi with⟨rfl,rfl⟩|⟨it,h1⟩<;>rcases m7 hj with⟨h5,h6⟩|⟨hne',h2⟩
  .omega
  .rw[(s1.obj j o' h2).blk ij]at hbj;have:=hbn b p9;subst this;exact(s.fresh (cn _) j o' h2 hbj).elim
  .subst h5;subst h6;rw[(s1.obj i o h1).blk ij]at p9;have:=hbn b hbj;subst this;exact(s.fresh (cn _) i o h1 p9).elim
  .rw[(s1.obj i o h1).blk ij]at p9;rw[(s1.obj j o' h2).blk ij]at hbj;exact s.apart i j o o' b h1 h2 p9 hbj
 .rcases m7 hi with⟨rfl,rfl⟩|⟨it,h1⟩
  .have:=hbn b p9;subst this;have o7:c.D w.heap.size j=some v:=hD;rw[s.noD (cn _) j]at o7;cases o7
  .rw[(s1.obj i o h1).blk ij]at p9;exact s.sep i o b j v h1 p9 hD
 .rcases m7 hi with⟨rfl,rfl⟩|⟨it,h1⟩
  .have:=hbn b p9;subst this;exact .inr k.size
  .rw[(s1.obj i o h1).blk ij]at p9;exact k.newobj i o b h1 p9
theorem xzd{c:Ctx}{h:g9}{w:World}(hs:HSim c h w)(k:E.ok c h w){o:Oper}{ev:Operand->Value}{T:TypeId}{ad x:Operand}(lf:o.op=.store T ad x){i off:Nat}{xs:List AV}{y:AV}(wt:Rel c (.ptr i off) (ev ad))(mq:Rel c y (ev x))
  (hi:h[i]?=some (.cells xs)) (kp:y.cellsOk=true) (jx:y.cells.length=jd P T) (hk:im P T≠.other) (ij:off+y.cells.length<=xs.length) :
  ∃w',(execOp ev o).run P w=.ok .skip w'/\HSim c (h.set i (.cells (qxg xs off y.cells))) w'/\E.ok c (h.set i (.cells (qxg xs off y.cells))) w':=by
 obtain⟨b,hav,hb⟩:=qul wt;obtain⟨h1,h2⟩:=mq.cells kp;obtain⟨b',vs,T',g1,g2,g3,g4⟩:=hs.obj i _ hi;rw[hb]at g1;cases g1;obtain⟨iT,d,z,t1,t2,t3,t4,t5,_⟩:=li (P:=P) (t:=T) rfl hk;have nj:∀v,v∈(ev x).cells.toList->v.oneCell'=true:=λv hv=>by grind[da]
 have jk:=run_storeCells_at P b off T' (ev x).cells.toList 0 vs w g2 af nj;simp only[ea]at jk;have hsize:(ev x).cells.size=iT.size:=aa;have kn:(execOp ev o).run P w=.ok .skip (w.setRow b (vs.toList.take off++(ev x).cells.toList++vs.toList.drop (off+(ev x).cells.toList.length)).toArray):=by
  simp only[execOp,lf,Instr.storeAt,hav,Instr.sureAddr,storeVar,c8,dm,c9,xl t1,hsize,ne_eq,not_true_eq_false,if_false,jk]
 have zk:qp0 c (qxg xs off y.cells) (vs.toList.take off++(ev x).cells.toList++vs.toList.drop (off+(ev x).cells.toList.length)).toArray:=by
  unfold qxg;have hl2:(ev x).cells.toList.length=y.cells.length:=aa;refine⟨qhu,λj y' v hy hv=>?_⟩;have v6:(vs.toList.take off++(ev x).cells.toList++vs.toList.drop (off+(ev x).cells.toList.length))[j]?=some v:=af;rw[hl2]at v6;by_cases hj1:j<off
  .grind
  .grind
 obtain⟨s',k'⟩:=xpd hs k hi hb g2 zk.1 zk.2;exact⟨_,kn,s',k'⟩
theorem xv4{l:List DR}{n:Nat}{o:AObj}:∀{h:g9},(∀r,r∈l->∀off cs,r.k≠.store n off cs)->rr l (h.set n o)=(rr l h).set n o:=by
 induction l with
 |nil=>intro h _;rfl
 |cons r l ih =>
  intro h kf;rw[zn,fj,<-zn,zn (r::l),fj,<-zn];have h1:wa r (h.set n o)=(wa r h).set n o:=by
   unfold wa;split
   .grind[ct,List.set_comm]
   .rfl
  rw[h1,ih λr' hr=>kf r' qfo]
theorem je1{R:List DR}{i j:Nat}{ri rj:DR}{xi xj:List AV}(hi:R[i]?=some ri)(hj:R[j]?=some rj)(hki:ri.k=.fresh xi)(hkj:rj.k=.fresh xj)(h:qmc R i=qmc R j):i=j:=by
 have h1:=qyf (X:=λm=>decide (m=i)) R 0 i ri xi hi hki;have h2:=qyf (X:=λm=>decide (m=i)) R 0 j rj xj hj hkj;unfold qmc at h;rw[h,h2]at h1;by_cases he:j=i
 .omega
 .grind
theorem xe4{X:Nat->Bool}{r:DR}:∀{R:List DR} {k j:Nat},R[j]?=some r->X (k+j)=true->r∈ss X k R
 | [],_,_,h,_=>by simp at h
 |b::R,k,0,h,hX=>by simp at h;subst h;simp only[ea]at hX;simp[ss,hX]
 |b::R,k,j+1,h,hX=>by
  have:=xe4 (X:=X) (R:=R) (k:=k+1) (j:=j) qf7 af;simp only[ss];cases X k<;>simp[this]
end
section
variable {P:Program} {E:Ent}
structure DRegW(l:List Oper)(R:List DR):Prop where
 ok:DrawOk l
 len:R.length=l.length
 dst:∀{k:Nat} {r:DR},R[k]?=some r->∃o,l[k]?=some o/\r.dst=o.dst/\((∃i off cs,r.k=.store i off cs)->qrp o.op=true)
 sep:∀(k s:Nat) (r r':DR) (i off:Nat) (cs:List AV),R[k]?=some r->r.k=.quiet (some i)->R[s]?=some r'->r'.k=.store i off cs->k<s/\sh (Region.before l.toArray) k s=true
structure DReg(P:Program)(E:Ent)(l:List Oper)(e0:Env)(R:List DR):Prop where
 ok:DrawOk l
 len:R.length=l.length
 step:∀(k:Nat) (o:Oper),l[k]?=some o->ux P E.N ((l.take k).map (·.dst)) o (jb e0 (R.take k)) (λr=>R[k]?=some r)
 sep:∀(k s:Nat) (r r':DR) (i off:Nat) (cs:List AV),R[k]?=some r->r.k=.quiet (some i)->R[s]?=some r'->r'.k=.store i off cs->k<s/\sh (Region.before l.toArray) k s=true
theorem DReg.weak{l:List Oper}{e0:Env}{R:List DR}(d:DReg P E l e0 R):DRegW l R where
 ok:=d.ok
 len:=d.len
 sep:=d.sep
 dst:=λ{k r} hr=>by
  have il:k<l.length:=by rw[<-d.len];exact(cm.1 hr).1
  obtain⟨_,r',h1,h2,h3⟩:=qwl (d.step k l[k] bc);rw[hr]at h2;cases h2;exact⟨l[k],bc,h1,h3⟩
theorem xde{l:List Oper}{e0:Env}{R:List DR}(d:DRegW l R)(hE0:E.h.length<=e0.h.length){X:Nat->Bool}(ki:qku l X){c:Ctx}{a:Act}{w:World}(inv:DInv E e0 R X c a w){i:Nat}{o:Oper}(hi:l[i]?=some o)(pn:X i=false)
  (rk:∀e,e∈o.after->Region.binds .any e=true->X e.on=true) (qmz:ux P E.N ((l.take i).map (·.dst)) o (jb e0 (R.take i)) (λr=>R[i]?=some r)) {Q:Exit->Act->World->Prop} :
  wpOp P l.toArray Q i (λa' w'=>∃c',DInv E e0 R (λj=>if j=i then true else X j) c' a' w') a w:=by
 obtain⟨hdok,r,hrd,hr,hrs⟩:=qwl qmz;have hilt:i<l.length:=(cm.1 hi).1
 -- which operations wrote a slot of this one's
 have qvm:∀t,t∈tmpsOf o.op.operands.toList++quz l o->Rel c (ji (jb e0 (R.take i)).t t) (a.tmps.getD t undef):=by
  intro t ht;have:=inv.tmps t;rw[qx2,xdd];rw[qcu (Y:=X)]
  .exact this
  .intro j r' jf hd;simp only[cz,fa];obtain⟨o',kc,sn,_⟩:=d.dst jf;rw[sn]at hd;rcases d.ok.temps i o t j o' hi ht kc hd with rfl|y8
   .simp[pn]
   .rcases qjq j i with h|h|h
    .grind[Nat.min_eq_right,Nat.max_eq_left,qly]
    .grind
    .rw[fm (ez h),Nat.max_eq_right (ez h)]at y8;have hXj:X j=false:=by
      cases hX:X j with
      |false=>rfl
      |true=>have:=qly ki j i o' kc (ki j o' hX kc) y8;rw[pn]at this;cases this
     rw[hXj,decide_eq_false aa]
 have vn:∀x,x∈o.op.operands.toList->Rel c ((jb e0 (R.take i)).get x) (a.eval x):=by
  intro x hx;cases x with
  |tmp t=>exact qvm t (List.mem_append_left _ (by grind[tmpsOf]))
  |const v=>exact xg7 c v
  |global g=>exact .top _
  |func f=>exact .fn _ [] [] #[] #[] rfl rfl ac ac
 have qqx:∀L:List Operand,(∀x,x∈L->x∈o.op.operands.toList)->me (jb e0 (R.take i)) true L->∀x,x∈L->Rel c ((jb e0 (R.take i)).getS x) (a.eval x):=λL hL iz x hx =>
  qym (vn x (hL x hx)) (xc0 iz x hx)
 -- the invariant with one operation more that makes and writes nothing
 have quiet:∀(c':Ctx) (w':World) (u:Value),(∃rd,r.k=.quiet rd)->c.le c'->HSim c' (hX R X e0.h) w'->E.ok c' (hX R X e0.h) w'->(∀n,c.blk n=none->n<(hX R X e0.h).length->c'.blk n=none)->Rel c' r.res u ->
   DInv E e0 R (λj=>if j=i then true else X j) c' (a.put o.dst u) w':=by
  rintro c' w' u ⟨rd,hk⟩ ij jg qrc r8 hu;have hh:hX R (λj=>if j=i then true else X j) e0.h=hX R X e0.h:=by
   unfold hX;have h1:=xef (X:=X) R 0 i r hr (λxs=>by rw[hk];simp);have h2:=xk4 (X:=X) (R:=R) (k:=0) (i:=i) (r:=r) hr af (.inl λa b cs=>by rw[hk];simp);simp only[cz]at h1 h2;rw[h1,h2];unfold wa;rw[hk]
  refine⟨qhd,qgt,λt=>?_,by rw[hh];exact jg,by rw[hh];exact qrc,λj rj xs hj ya hXj=>?_,λrj hrj i' off cs ya=>?_⟩
  .have h1:=qxx (X:=X) (t:=t) (k:=0) (x:=ji e0.t t) hr (λj r' jf hd hn=>by
    obtain⟨o',kc,sn,_⟩:=d.dst jf;exact d.ok.uniq i o j o' hi kc af af)
   simp only[cz]at h1;rw[h1];cases ww:o.dst with
   |none =>
    rw[hrd,ww,if_neg ac];exact(inv.tmps t).mono ij
   |some dd =>
    have il:dd<a.tmps.size:=qgh;rw[hrd,ww];by_cases hdt:dd=t
    .subst hdt;rw[if_pos rfl];simpa[Act.put,il]using hu
    .rw[if_neg af];have:=(inv.tmps t).mono ij;simpa[Act.put,dz,gg hdt]using this
  .have su:j≠i:=λe=>by subst e;simp at hXj
   rw[if_neg su]at hXj;refine r8 _ (inv.nob j rj xs hj ya hXj) ?_;rw[jhy];have h1:=qyf (X:=X) R 0 j rj xs hj ya;have:=(cm.1 h1).1;unfold qmc;omega
  .obtain⟨j,h1,h2⟩:=qt3 hrj;simp only[cz]at h2;by_cases su:j=i
   .grind
   .rw[if_neg su]at h2;have tz:rj∈ss X 0 R:=xe4 h1 af;have mz:=xef (X:=X) R 0 i r hr (λxs=>by rw[hk];simp);simp only[cz]at mz;rw[mz];exact inv.fit rj tz i' off cs ya
 -- how the step xo0 on
 have hG:=qmz;unfold ux at hG;split at hG
 .grind
 rename_i G hgB;obtain⟨_,hG⟩:=hG;have qxv:Region.wanted o (yielded l.toArray a.tmps)=G:=xl2 (l:=l) ac (i:=i) (λj want hg=>d.ok.guard i o j want hi hg) (λt ht=>qvm t (List.mem_append_right _ ht)) hgB;have px:(l.toArray)[i]?=some o:=af;have jx:l.toArray.size=l.length:=ac;have xfm:∀n,c.blk n=none->n<(hX R X e0.h).length->c.blk n=none:=λ_ h _=>h
 -- an operation that yields a value and leaves the heap
 have still:∀(v:AV),r.res=qb o.guard G v->(∃rd,r.k=.quiet rd)->(G=true->∃c' w' u,(execOp a.eval o).run P w=.ok (.value u) w'/\c.le c'/\HSim c' (hX R X e0.h) w'/\E.ok c' (hX R X e0.h) w'/\(∀n,c.blk n=none->n<(hX R X e0.h).length->c'.blk n=none)/\Rel c' v u) ->
   wpOp P l.toArray Q i (λa' w'=>∃c',DInv E e0 R (λj=>if j=i then true else X j) c' a' w') a w:=by
  intro v hv hk jk;unfold wpOp;simp only[px];cases hGv:G with
  |true =>
   rw[if_pos af];obtain⟨c',w',u,h1,h2,h3,h4,h5,h6⟩:=jk hGv;refine .inl (vj h1 ⟨c',quiet c' w' u hk h2 h3 h4 h5 ?_⟩);rw[hv,hGv];unfold qb;split
   .exact h6
   .exact .opt _ _ _ (λ_=>h6) (λh=>by cases h)
  |false =>
   rw[if_neg af];refine⟨c,quiet c w undef hk (.refl c) inv.hs inv.ok xfm ?_⟩;rw[hv,hGv];unfold qb;split
   .grind[gB,eb]
   .exact .opt _ _ _ (λh=>by cases h) (λ_=>rfl)
 have hgt:o.guard=none->G=true:=λhg=>by rw[hg]at hgB;simpa[gB]using hgB.symm
 -- stores carried out do not touch an object that this operation may still read or write
 have nostore:∀j,(∀(s:Nat) (r':DR) (off:Nat) (cs:List AV),R[s]?=some r'->r'.k=.store j off cs->sh (Region.before l.toArray) i s=true)->∀r',r'∈ss X 0 R->∀off cs,r'.k≠.store j off cs:=by
  intro j hs r' jf off cs hk;obtain⟨s,h1,h2⟩:=qt3 jf;rw[cz]at h2;obtain⟨o',kc,_⟩:=d.dst h1;have:=qly ki s i o' kc (ki s o' h2 kc) (hs s r' off cs h1 hk);rw[pn]at this;cases this
 -- an object to which a pointer is at hand has been made
 have made:∀(j off:Nat) (u:Value) (xs:List AV),Rel c (.ptr j off) u->(jb e0 (R.take i)).h[j]?=some (.cells xs)->(e0.h++ni X 0 R)[j]?=some (.cells xs):=by
  intro j off u xs hp hj;rw[qxl]at hj;by_cases hjl:j<e0.h.length
  .grind
  .rw[cx aa]at hj;obtain⟨f,rf,ys,h1,h2,h3,h4⟩:=qc6 _ _ _ _ hj;simp only[cond_true,AObj.cells.injEq]at h4;subst h4;have hfi:f<i:=af;rw[dt,if_pos hfi]at h1;rw[List.take_take,fm aa]at h3;have hXf:X f=true:=by
    cases hX:X f with
    |true=>rfl
    |false =>
     have h5:=inv.nob f rf xs h1 h2 hX;unfold qmc at h5;rw[h3,show e0.h.length+(j - e0.h.length)=j from by omega]at h5;obtain⟨b,_,hb⟩:=qul hp;rw[h5]at hb;cases hb
   have h6:=qyf (X:=X) R 0 f rf xs h1 h2;rw[h3,cz,hXf,cond_true]at h6;rw[cx aa];exact h6
 have qsj:qsm (jb e0 (R.take i)).h (hX R X e0.h):=xml
 -- an operation that makes an object
 have fresh:∀(xs:List AV) (vs:Array Value) (T:TypeId),r=⟨o.dst,.ptr (jb e0 (R.take i)).h.length 0,.fresh xs⟩->o.guard=none->qp0 c xs vs->(execOp a.eval o).run P w=.ok (.value (.pointer (some ⟨w.heap.size,0,none⟩))) (w.alloc (.cells vs T)) ->
   wpOp P l.toArray Q i (λa' w'=>∃c',DInv E e0 R (λj=>if j=i then true else X j) c' a' w') a w:=by
  intro xs vs T hrv hg hc jk;have hn:(jb e0 (R.take i)).h.length=e0.h.length+qmc R i:=by simp[qxl,qmc]
  have hk:r.k=.fresh xs:=by rw[hrv]
  have xa3:(e0.h++ni X 0 R)[e0.h.length+qmc R i]?=some .none:=by
   rw[cx aa,Nat.add_sub_cancel_left];have:=qyf (X:=X) R 0 i r xs hr hk
   rwa [cz,pn]at this
  have qqi:(hX R X e0.h)[e0.h.length+qmc R i]?=some .none:=(xck _ _ _ .none ac).2 xa3;obtain⟨c',ij,s',k',hb,ov⟩:=jbh inv.hs inv.ok qqi (inv.nob i r xs hr hk pn) aa T hc;have hnost:∀r',r'∈ss X 0 R->∀off cs,r'.k≠.store (e0.h.length+qmc R i) off cs:=λr' jf off cs kb=>by
   obtain⟨ys,h1,_⟩:=inv.fit r' jf _ off cs kb;rw[xa3]at h1;cases h1
  have hF:=xli (X:=X) R 0 i r xs hr hk;rw[cz]at hF;have hF':ni (λj=>if j=i then true else X j) 0 R=(ni X 0 R).set (qmc R i) (.cells xs):=hF;have happ:e0.h++(ni X 0 R).set (qmc R i) (.cells xs)=(e0.h++ni X 0 R).set (e0.h.length+qmc R i) (.cells xs):=ac;have hh:hX R (λj=>if j=i then true else X j) e0.h=(hX R X e0.h).set (e0.h.length+qmc R i) (.cells xs):=by
   unfold hX;have h2:=xk4 (X:=X) (R:=R) (k:=0) (i:=i) (r:=r) hr af (.inl λa b cs=>by rw[hk];simp);rw[cz]at h2;rw[hF',h2,happ,xv4 hnost];unfold wa;rw[hk]
  unfold wpOp;simp only[px];rw[if_pos af];refine .inl (vj jk ⟨c',⟨qhd,qgt,λt=>?_,by rw[hh];exact s',by rw[hh];exact k',λj rj ys hj ya hXj=>?_,λrj hrj i' off cs ya=>?_⟩⟩)
  .have h1:=qxx (X:=X) (t:=t) (k:=0) (x:=ji e0.t t) hr (λj r' jf hd hn=>by
    obtain⟨o',kc,sn,_⟩:=d.dst jf;exact d.ok.uniq i o j o' hi kc af af)
   simp only[cz]at h1;rw[h1];cases ww:o.dst with
   |none =>
    rw[hrd,ww,if_neg ac];exact(inv.tmps t).mono ij
   |some dd =>
    have il:dd<a.tmps.size:=qgh;rw[hrd,ww];by_cases hdt:dd=t
    .subst hdt;rw[if_pos rfl,hrv];simp only[Act.put,dz,Array.getElem?_setIfInBounds_self_of_lt il,gq];rw[hn];exact .ptr _ _ _ hb
    .rw[if_neg af];have:=(inv.tmps t).mono ij;simpa[Act.put,dz,gg hdt]using this
  .have su:j≠i:=λe=>by subst e;simp at hXj
   rw[if_neg su]at hXj;rw[ov _ λe=>su (je1 hj hr ya hk aa)];exact inv.nob j rj ys hj ya hXj
  .obtain⟨j,h1,h2⟩:=qt3 hrj;simp only[cz]at h2;by_cases su:j=i
   .grind
   .rw[if_neg su]at h2;obtain⟨zs,h3,h4⟩:=inv.fit rj (xe4 h1 af) i' off cs ya;refine⟨zs,?_,h4⟩;rw[hF',happ,ct]
    .exact h3
    .grind
 split at hG
 .
  rename_i x y z lf;obtain⟨hp,jf⟩:=hG;rw[hr]at jf;cases jf;refine still _ rfl ⟨_,rfl⟩ λhGt=>?_;rw[hGt]at hp;have m:=vn;rw[lf]at m;obtain⟨b,hb,jr⟩:=xnp (m x bb) (m y bb) (m z bb) hp;exact⟨c,w,_,by simp only[execOp,lf,hb,asBool,c8,dm,c9],.refl c,inv.hs,inv.ok,xfm,jr⟩
 .
  rename_i T x lf;obtain⟨hg,iz,kp,jf⟩:=hG;rw[hr]at jf;have jr:=qqx [x] qfd iz x ac;exact fresh _ _ T af hg (jr.cells kp) qf6
 .
  rename_i T lf;obtain⟨hg,hk,jf⟩:=hG;rw[hr]at jf;obtain⟨iT,dT,z,h1,h2,h3,h4,h5,h6,h7,h8⟩:=li (P:=P) (t:=T) rfl hk;rw[h6]at jf;have yt:(zeroValue T).run P w=.ok z w:=qfn;exact fresh _ _ T af hg (xfz c h8) qf4
 .
  rename_i T ad x lf;obtain⟨hg,hdn,iz,oq,kp,ut,hG⟩:=hG;split at hG
  .rename_i j off had;split at hG
   .rename_i xs hj;obtain⟨hle',jf⟩:=hG;rw[hr]at jf;simp only[eb]at jf;have hk:r.k=.store j off ((jb e0 (R.take i)).getS x).cells:=by rw[jf]
    have wt:=qqx [ad,x] qfd iz ad ac;have mq:=qqx [ad,x] qfd iz x ac;rw[had]at wt;have xa3:=made j off _ xs wt hj;obtain⟨ys,hy,hyl⟩:=xxm (l:=ss X 0 R) (λr' jf i' off' cs kb zs hz=>by
     obtain⟨us,g1,g2⟩:=inv.fit r' jf i' off' cs kb;rw[hz]at g1;cases g1;exact g2) xa3
    obtain⟨w',jk,s',k'⟩:=xzd (E:=E) inv.hs inv.ok lf wt mq hy kp ut oq aa;have hF:=xef (X:=X) R 0 i r hr (λxs=>by rw[hk];simp);rw[cz]at hF;have kn:qrp o.op=true:=af;have h2:=xk4 (X:=X) (R:=R) (k:=0) (i:=i) (r:=r) hr af (.inr λm r' hm him hXm b1 b2 b3 hkm=>by
     rw[cz]at hXm;obtain⟨o',kc,_,hst'⟩:=d.dst hm;have:=qly ki m i o' kc (ki m o' hXm kc) (d.ok.stores i o m o' hi kc him kn (hst' ⟨b1,b2,b3,hkm⟩));rw[pn]at this;cases this)
    rw[cz]at h2;have hh:hX R (λj=>if j=i then true else X j) e0.h=(hX R X e0.h).set j (.cells (qxg ys off ((jb e0 (R.take i)).getS x).cells)):=by
     have hy':(hX R X e0.h)[j]?=some (.cells ys):=hy;show rr _ _=_;rw[hF,h2];show wa r (hX R X e0.h)=_;unfold wa;rw[hk];simp only[hy']
    unfold wpOp;simp only[px];rw[if_pos af];refine .inl (xaw jk ⟨c,⟨by rw[hdn];exact inv.defers,by rw[hdn];exact inv.size,λt=>?_,by rw[hh];exact s',by rw[hh];exact k',λm rm zs hm hmk hXm=>?_,λrm hrm i' off' cs hmk=>?_⟩⟩)
    .have h1:=qxx (X:=X) (t:=t) (k:=0) (x:=ji e0.t t) hr (λm r' jf hd hn=>by
      rw[hrd,hdn]at hn;exact(hn rfl).elim)
     simp only[cz]at h1;rw[h1,hrd,hdn,if_neg ac];exact inv.tmps t
    .have hmi:m≠i:=λe=>by subst e;simp at hXm
     rw[if_neg hmi]at hXm;exact inv.nob m rm zs hm hmk hXm
    .obtain⟨m,h3,h4⟩:=qt3 hrm;simp only[cz]at h4;rw[hF];by_cases hmi:m=i
     .grind
     .rw[if_neg hmi]at h4;exact inv.fit rm (xe4 h3 af) i' off' cs hmk
   .grind
  .grind
 .
  rename_i T n parts lf;split at hG
  .rename_i el sz hk;split at hG
   .rename_i rows qu3;obtain⟨hg,iz,hn,hpos,h24,oq,ut,jf⟩:=hG;rw[hr]at jf;cases jf;refine still (.slice rows) rfl ⟨_,rfl⟩ λhGt=>?_;have jr:=qqx (parts.toList.map (·.2)) qfd iz
    rw[xn8 qsj]at qu3;obtain⟨v,w',c',jk,ij,s',k',jf⟩:=xou (P:=P) (E:=⟨E.N,c,hX R X e0.h,w⟩) inv.hs (Ent.ok.refl _ inv.hs) hk (parts:=parts.toList.map λp=>(p.1,(jb e0 (R.take i)).getS p.2)) (qs:=parts.map λp=>(p.1,a.eval p.2)) ac (λj p q hp hq=>by
     simp only[di,db]at hp;obtain⟨x,hx,rfl⟩:=hp;simp only[fy,db]at hq;obtain⟨y,hy,rfl⟩:=hq;have:x=y:=af;subst this;exact⟨rfl,jr x.2 (cy.2 ⟨x,cv hx,rfl⟩)⟩) qu3 hn hpos h24 oq ut
    exact⟨c',w',v,qev,ij,s',inv.ok.trans k',λn h1 h2=>by rw[k'.blk0 n h2];exact h1,jf⟩
   .split at hG
    .rename_i cs md;obtain⟨hg,iz,hpos,h24,oq,ut,jf⟩:=hG;rw[hr]at jf;cases jf;refine still (.lit cs) rfl ⟨_,rfl⟩ λhGt=>?_;have jr:=qqx (parts.toList.map (·.2)) qfd iz
     obtain⟨v,w',c',jk,ij,s',k',jf⟩:=xty (P:=P) (E:=⟨E.N,c,hX R X e0.h,w⟩) inv.hs (Ent.ok.refl _ inv.hs) hk (parts:=parts.toList.map λp=>(p.1,(jb e0 (R.take i)).getS p.2)) (qs:=parts.map λp=>(p.1,a.eval p.2)) ac (λj p q hp hq=>by
      simp only[di,db]at hp;obtain⟨x,hx,rfl⟩:=hp;simp only[fy,db]at hq;obtain⟨y,hy,rfl⟩:=hq;have:x=y:=af;subst this;exact⟨rfl,jr x.2 (cy.2 ⟨x,cv hx,rfl⟩)⟩) md hpos h24 oq ut
     exact⟨c',w',v,qev,ij,s',inv.ok.trans k',λn h1 h2=>by rw[k'.blk0 n h2];exact h1,jf⟩
    .grind
  .grind
 .
  rename_i f args ts lf;split at hG
  .rename_i fid first caps hf
   obtain⟨rv,hp,jf⟩:=hG;rw[hr]at jf;cases jf;unfold wpOp;simp only[px];cases hGv:G with
   |true =>
    rw[if_pos af];obtain⟨iz,hp⟩:=hp hGv;have jr:=qqx (f::args.toList) (by rw[lf];simp[Op.operands,Call.operands]) iz;rw[xfo qsj]at hp;refine .inl (xv9 (E:=⟨E.N,c,hX R X e0.h,w⟩) inv.hs (Ent.ok.refl _ inv.hs) lf jr hf (hp _ jio) (λv h' c' w' u hR ij jg kb zb=>?_) (λv h' hR=>by cases hR.1));obtain⟨h1,rfl⟩:=hR;cases h1;refine⟨c',quiet c' w' u ⟨_,rfl⟩ ij jg (inv.ok.trans kb) (λn h1 h2=>by rw[kb.blk0 n h2];exact h1) ?_⟩;show Rel c' (qb o.guard G rv) u;rw[hGv];unfold qb;split
    .exact zb
    .exact .opt _ _ _ (λ_=>zb) (λh=>by cases h)
   |false =>
    rw[if_neg af];refine⟨c,quiet c w undef ⟨_,rfl⟩ (.refl c) inv.hs inv.ok xfm ?_⟩;show Rel c (qb o.guard G rv) undef;rw[hGv];unfold qb;split
    .grind
    .exact .opt _ _ _ (λh=>by cases h) (λ_=>rfl)
  .grind
 .
  rename_i op kr nm hb3 hb4 hb5 hb6;obtain⟨iu,jf⟩:=hG;rw[hr]at jf;cases jf;refine still _ rfl ⟨_,rfl⟩ λhGt=>?_;obtain⟨iz,hs⟩:=iu hGt;have jr:=qqx _ (λx hx=>hx) iz;have qvs:qg P (jb e0 (R.take i)).getS (jb e0 (R.take i)).h o.op=qg P (jb e0 (R.take i)).getS (hX R X e0.h) o.op:=jag xml (λj hj=>by
   obtain⟨t,ad,off,lf,had⟩:∃t ad off,o.op=.load t ad/\(jb e0 (R.take i)).getS ad=.ptr j off:=by
    revert hj
    unfold qxe;split
    .grind
    .simp
   have tk:=hs;rw[lf]at tk;simp only[qg,quj,had]at tk;split at tk
   .rename_i xs hxs;have hp:=jr ad qfd;rw[had]at hp;have h1:=made j off _ xs hp hxs;have kf:=nostore j λs r' off cs hs hk=>(d.sep i s _ r' j off cs hr af hs hk).2;rw[hxs];unfold hX;rw[xxj kf,h1]
   .exact tk.elim) xvy
  rw[qvs]at hs|-;obtain⟨v,h1,h2⟩:=xct inv.hs jr hs;exact⟨c,w,v,h1,.refl c,inv.hs,inv.ok,xfm,h2⟩
end
end Go.Abs
