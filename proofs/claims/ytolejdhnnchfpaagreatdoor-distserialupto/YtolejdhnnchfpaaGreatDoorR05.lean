/- Part 5 of a proof. -/
import Derived.Scope
import Derived.Shelf.Spec.SlicesInsertGrow
import Derived.Laws.MakeOwn
import Derived.Recover
import Derived.Shelf.Spec.SlicesInsert
import Derived.Test.YtolejdhnnchfpaaGreatDoorR04
set_option linter.all false
set_option maxRecDepth 100000
set_option maxHeartbeats 4000000

namespace Go.Abs
section
variable{T:TypeId}{K:V->mz->Prop}
def qmb{P:Program}{s x:V}{h:mz}(hK:wI P T s x h K):∃r U,wI P T s x h (λr1 O=>True/\r1=r/\O=U)/\K r U:=by
 unfold wI at hK;split at hK
 rotate_left
 .grind
 rename_i O U;obtain⟨g1,g2,g3,g4,g5,hK⟩:=hK;split at hK
 .grind[wI]
 .grind[wI]
 .grind[wI]
 grind
def Wj{P:Program}{s x:V}{h:mz}(hK:Ae P T s x h K):∃r U,Ae P T s x h (λr1 O=>True/\r1=r/\O=U)/\K r U:=by
 unfold Ae at hK|-;split at hK
 .grind
 exact qmb hK
end
section
variable {P:Program} {E:Ent}
def IV(P:Program)(N:Nat)(hu:AExit->Env->Prop)(tl:List Oper)(ds:List (Option Tmp))(l:List Oper)(e:Env)(nw:List DR)(pd:mz->Prop):Prop :=
 match l with
 | []=>False
 |o::l =>
  match o.op with
  | .call { callee:=.builtin .append,args,argTypes } =>
   o.guard=none/\iJ N o.dst/\nw.all DR.isQ=true/\sn e true args.toList/\match args.toList,argTypes.toList with
   | [x,y],[T,T']=>T'=T/\Ae P T (e.getS x) (e.getS y) e.h
     (λr U=>pd U/\xR P N (ds++[o.dst]) l ((⟨o.dst,r,.quiet none⟩:DR).next ⟨e.t,U⟩) (nw++[⟨o.dst,r,.quiet none⟩]) λR e1=>R.all DR.isQ=true/\iB P N hu (ds++o.dst::l.map (·.dst)) tl ⟨e1.t,U⟩)
   |_,_=>False
  |_=>False
def xQ{id:Nat}(m jc:Nat)(u:List Nat){l:List Oper}{hu:AExit->Env->Prop}{e:Env}(hm:P.follows .mixedOrders=true)(hB:Gv m jc u l=true)
  (h:AN P E.N u (IV P E.N hu (l.drop m)) jc 0 [] (l.take m) e [] λ_=>True):AWp P E (.region id l.toArray true) hu e:=by
 simp only[Gv,gy,jm]at hB;obtain⟨⟨⟨⟨zg,hjm⟩,hdB⟩,hT⟩,hO⟩:=hB;have pg:=Ct hdB;obtain⟨R1,pd,qM,hn,aA,hK,hp⟩:=Im h;simp only[ke]at aA hK hp;have oy:(l.take m).length=m:=au;have hd:(l.take m).drop jc=(l.take m)[jc]'J::(l.take m).drop (jc+1):=qiv J;generalize hoc:(l.take m)[jc]'J=oc at hd;have hoc':(l.take m)[jc]?=some oc:=W;rw[hd]at hK;simp only[IV]at hK;split at hK
 rotate_left
 .grind
 rename_i args ats p8;obtain⟨hg,dU,hQ1,nz,hK⟩:=hK;have hq1:=HH.1 hQ1;split at hK
 rotate_left
 .grind
 rename_i x y T T' hx hT';obtain⟨hTT,hK⟩:=hK;obtain⟨r,U,hc,hKA'⟩:=Wj hK;have hKA:=λ(_:True)=>hKA';have gK:∀k,k<m->k≠jc->(k<jc/\(zc (Region.before (l.take m).toArray) k jc=true\/k∈u))\/(jc<k/\zc (Region.before (l.take m).toArray) jc k=true):=λk hk nv=>by grind
 have dD:oc.op.operands.toList=args.toList:=by rw[p8];simp[Op.operands,Call.operands]
 have hR2:∃R2:List DR,R2.length=((l.take m).drop (jc+1)).length/\(∀r',r'∈R2->∃rd,r'.k=.quiet rd)/\(∀(j:Nat) (r':DR),R2[j]?=some r'->∃o,((l.take m).drop (jc+1))[j]?=some o/\r'.dst=o.dst) /\
   (True->pd U/\(∀(j:Nat) (o:Oper),((l.take m).drop (jc+1))[j]?=some o->cA P E.N (((l.take m).take jc).map (·.dst)++[oc.dst]++(((l.take m).drop (jc+1)).take j).map (·.dst)) o (oj ((⟨oc.dst,r,.quiet none⟩:DR).next ⟨(oj e R1).t,U⟩) (R2.take j)) (λr'=>R2[j]?=some r')) /\
    iB P E.N hu ((l.take m).map (·.dst)) (l.drop m) ⟨(oj ((⟨oc.dst,r,.quiet none⟩:DR).next ⟨(oj e R1).t,U⟩) R2).t,U⟩):=by
  by_cases hk:True
  .obtain⟨h3,h4⟩:=hKA hk;obtain⟨R2,g1,g2,g3⟩:=Bv (CD h4);obtain⟨g4,g5⟩:=g3;rw[List.all_append,List.all_append,gy,gy]at g4;refine⟨R2,g1,HH.1 g4.2,λj r' hj=>?_,λ_=>⟨h3,g2,?_⟩⟩
   .have ni:j<((l.take m).drop (jc+1)).length:=by rw[<-g1];exact(gn.1 hj).1
    obtain⟨_,r'',k1,k2,_⟩:=AU (g2 j _ (ii ni));grind
   grind[me]
  grind
 obtain⟨R2,lX,hq2,pG,AR⟩:=hR2;generalize hrc:(⟨oc.dst,r,.quiet none⟩:DR)=rc at AR;have Bz:∀k,k<jc->(R1++rc::R2)[k]?=R1[k]?:=λk hk=>gu J;have hgetc:(R1++rc::R2)[jc]?=some rc:=W;have Ci:∀k,jc<k->(R1++rc::R2)[k]?=R2[k - (jc+1)]?:=λk hk=>by rw[gz J,qM,show k - jc=(k - (jc+1))+1 by omega,qjk]
 have zL:∀k,k<=jc->(R1++rc::R2).take k=R1.take k:=λk hk=>by rw[qkd J]
 have I2:∀k,jc<k->(R1++rc::R2).take k=R1++rc::R2.take (k - (jc+1)):=λk hk=>by rw[List.take_append,ll J,qM,show k - jc=(k - (jc+1))+1 by omega,qix]
 have hqR:∀r',r'∈R1++rc::R2->∃rd,r'.k=.quiet rd:=λr' G=>by
  rcases jj.1 G with G|G
  .simp_all
  rcases iq.1 G with rfl|G
  .grind
  simp_all
 have hdrop:∀k,jc<k->((l.take m).drop (jc+1))[k - (jc+1)]?=(l.take m)[k]?:=λk hk=>by rw[kj,show jc+1+(k - (jc+1))=k by omega]
 have dW:DRegW (l.take m) (R1++rc::R2):=by
  refine⟨pg,by simp[qM,lX];omega,λ{k r'} G=>?_,λk s r' r'' i off cs _ _ hs hk=>?_⟩
  .have ni:k<m:=by have:=(gn.1 G).1;simp[qM,lX]at this;omega
   obtain⟨rd,hk⟩:=hqR r' (gw G);have qz:(∃i off cs,r'.k=.store i off cs)->∀o:Oper,rE o.op=true:=W;rcases qjs k jc with O|O|O
   .exact Qcy
   .grind
   rw[Ci k O]at G;obtain⟨o,k1,k2⟩:=pG _ _ G;grind
  obtain⟨rd,O⟩:=hqR r'' (gw hs);grind
 have d:DRegK P E (l.take m) e (R1++rc::R2) jc U True hu:=by
  refine⟨dW,J,hqR,λk o ho nv qz=>?_,λhk k o ho nv qz=>?_,λo ho=>?_⟩
  .have ni:k<m:=by have:=(gn.1 ho).1;omega
   rcases gK k ni nv with⟨O,_⟩|⟨_,O⟩
   .rw[zL k J,Bz k O]
    simp_all
   grind
  .have ni:k<m:=by have:=(gn.1 ho).1;omega
   obtain⟨g1,g2,_⟩:=AR hk;rcases gK k ni nv with⟨O,h3|h3⟩|⟨O,_⟩
   .grind
   .exact Qcz
   have:=g2 (k - (jc+1)) o W;have e1:((l.take m).take jc).map (·.dst)++[oc.dst]++(((l.take m).drop (jc+1)).take (k - (jc+1))).map (·.dst)=((l.take m).take k).map (·.dst):=by rw[show(l.take m).take k=(l.take m).take (jc+(1+(k - (jc+1))))by congr 1;omega,List.take_add,hd,jr,Nat.add_comm 1,qix];simp
   rw[e1]at this;rw[I2 k O,Ci k O];have e2:oj ⟨e.t,U⟩ (R1++rc::R2.take (k - (jc+1)))=oj (rc.next ⟨(oj e R1).t,U⟩) (R2.take (k - (jc+1))):=by
    have:∀(mw hN:List DR) (x:Env),oj x (mw++hN)=oj (oj x mw) hN:=by
     intro mw
     induction mw with
     |nil=>intro hN x;rfl
     |cons a mw ih=>intro hN x;exact ih hN _
    rw[this,(yE (R:=R1) (λr' G=>hq1 r' J) e U).1];rfl
   grind
  rw[hoc']at ho;cases ho;refine⟨r,by rw[hg];rfl,dU,by rw[hgetc,<-hrc,hg];rfl,?_⟩;rw[zL jc (gj _),ll J];show xw P (mS (oj e R1) oc) oc.op _ _;have hh:=(yE (R:=R1) (λr' G=>hq1 r' J) e e.h).2;have u0:∀hI,hI∈args.toList->(mS (oj e R1) oc).getS hI=(oj e R1).getS hI:=λhI hz=>by grind[Kk,Env.getS]
  have GA:=I5 (o:=oc) (λhI hz=>by rw[dD];exact hz) nz;rw[p8];simp only[xw,hx,hT'];rw[hx]at GA u0;refine⟨GA,hTT,?_⟩;rw[u0 x Z,u0 y Z];exact hc
 refine Mb m jc hm zg hT d λhk=>?_;obtain⟨_,_,g3⟩:=AR hk;have:∀(mw hN:List DR) (x:Env),oj x (mw++hN)=oj (oj x mw) hN:=by
  intro mw
  induction mw with
  |nil=>intro hN x;rfl
  |cons a mw ih=>intro hN x;exact ih hN _
 have e3:(oj e (R1++rc::R2)).t=(oj (rc.next ⟨(oj e R1).t,U⟩) R2).t:=by
  rw[this];show(oj (rc.next (oj e R1)) R2).t=_
  simp_all[yE,Iu]
 grind
end
attribute [go_sem] IV
end Go.Abs

namespace Go.Abs
section
variable {P:Program} {E:Ent} {hu:AExit->Env->Prop} {e:Env}
def YE{b:Code}(h:AWp P E b hu e):AWp P E (.scope b) hu e:=λc a w s o=>by
 refine wp_scope_straight (wp_mono (h c a w s o) ?_);rintro ex a' w' ⟨x',e',c',hq,hx,o9,ok'⟩;cases ex with
 |goto l=>cases x'<;>simp only[XR]at hx
 |_=>exact⟨x',e',c',hq,hx,o9,ok'⟩
def WC{l:Nat}(h:hu .normal e):AWp P E (.label l) hu e:=λc a w s o=>wp_label ⟨.normal,e,c,h,trivial,s,o⟩
end
end Go.Abs

namespace Go.Abs
def Cs:V->Bool
 | .val _=>true
 | .tuple xs=>xs.all λ| .val _=>true|_=>false
 | .agg xs=>xs.all λ| .val _=>true|_=>false
 |_=>false
def Kw{c c':Ctx}{x:V}{v:Value}(hf:Cs x=true)(h:Rel c x v):Rel c' x v:=by
 cases x with
 |val u =>
  have:v=u:=h.val_inv;subst this;exact .val _ (rK h)
 |tuple xs =>
  cases h with
  |data h=>cases h
  |tuple _ vs hl h =>
   refine .tuple xs vs hl λj x v hx hv=>?_;have O:=h j x v hx hv;have U:=jk.1 hf x (gw hx);cases x with
   |val u =>
    have:v=u:=O.val_inv;subst this;exact .val _ (rK O)
   |_=>cases U
 |agg xs =>
  cases h with
  |data h=>cases h
  |agg _ vs hl ho h =>
   refine .agg xs vs hl ho λj x v hx hv=>?_;have O:=h j x v hx hv;have U:=jk.1 hf x (gw hx);cases x with
   |val u =>
    have:v=u:=O.val_inv;subst this;exact .val _ (rK O)
   |_=>cases U
 |_=>simp[Cs]at hf
def qL(h:mz):V->V
 | .nils=>.slice []
 | .slice r=>.slice r
 | .val v=>.val v
 | .own i n=>match h[i]? with
  |some (.arr _ _ S)=>if S.length=n then .slice S else .top
  |some (.uarr _ _ S)=>if S.length=n then .slice S else .top
  |_=>.top
 |_=>.top
section
variable {P:Program} {E:Ent}
section
variable{w:World}{v:Value}{e:Env}{o:Oper}{id:Nat}{hu:AExit->Env->Prop}
def oY(w:World):Ctx:=⟨λb j=>w.cell? ⟨b,j,none⟩,λ_=>none,λ_ _=>none⟩
def QV(w:World):HSim (oY w) [] w :=
 ⟨λ_ _ _ h=>h,λ_ _=>⟨rfl,λ_=>rfl⟩,λi o hi=>by simp at hi,λi j o o' b hi=>by simp at hi,λi o b j v hi=>by simp at hi⟩
def KQ{c:Ctx}{e sz:Nat}{S:List (List V)}{vs:List Value}(hD:∀b j v,c.D b j=some v->w.cell? ⟨b,j,none⟩=some v)(U:w.ownsRow 0 e sz v S.length vs)(h3:S.length<=68719476736)(h4:∀r,r∈S->r.length=sz)
  (h5:∀(i' j:Nat) (r:List V) (x:V),S[i']?=some r->r[j]?=some x->∃u,vs[i' * sz+j]?=some u/\DRel c.D x u):DRel (oY w).D (.slice S) v:=by
 rcases U.2 with⟨rfl,hn⟩|⟨g,cap,nu,rfl,hg,hh,uh,r9,su,eS⟩
 .have:S=[]:=ko hn;subst this;exact .nil
 have s6:∀(i' j:Nat) (r:List V) (x:V),S[i']?=some r->r[j]?=some x->∃u,vs[i' * sz+j]?=some u/\DRel c.D x u/\(oY w).D g (0+i' * sz+j)=some u:=by intro i' j r x G hx;obtain⟨u,Q,hd⟩:=h5 i' j r x G hx;refine⟨u,Q,hd,?_⟩;have:=U.cells (g:=g) rfl _ u Q;rw[cM,im]at this;rw[im];exact this
 exact .slice S g 0 cap sz (λi' j=>(vs[i' * sz+j]?).getD undef) h4 h3 uh (λi' j r x G hx=>by
  obtain⟨u,Q,hd,v7⟩:=s6 i' j r x G hx;rw[Q];exact v7) λi' j r x G hx=>by
  obtain⟨u,Q,hd,v7⟩:=s6 i' j r x G hx;rw[Q];exact hd.mono hD
def Jq{c:Ctx}{h:mz}(s:HSim c h w){x:V}(G:Rel c x v):Rel (oY w) (qL h x) v:=by
 have hD:∀b j v,c.D b j=some v->(oY w).D b j=some v:=s.data;cases x with
 |nils =>
  cases G with
  |data h=>cases h
  |nils=>exact .data .nil
 |slice r=>exact .data ((Rel.slice_inv G).mono hD)
 |val u =>
  have:v=u:=G.val_inv;subst this;exact .val _ (rK G)
 |own i n =>
  cases G with
  |data h=>cases h
  |own _ _ _ hv ho =>
   simp only[qL];split
   .rename_i e sz S hi;split
    .rename_i hn;subst hn;obtain⟨v',vs,O,_,_,U,h3,h4,h5,_⟩:=s.obj i _ hi;rw[hv]at O;cases O;exact .data (KQ s.data U h3 h4 h5)
    exact .top _
   .rename_i e sz S hi;split
    .rename_i hn;subst hn;obtain⟨v',vs,O,_,_,U,h3,h4,h5⟩:=s.obj i _ hi;rw[hv]at O;cases O;exact .data (KQ s.data U h3 h4 h5)
    exact .top _
   exact .top _
 |_=>exact .top _
def T4{c:Ctx}{a:Act}(s:Sim E.N c e a w)(k:E.ok c e.h w){f:Operand}{args:Array Operand}{ts:Array TypeId}(ho:o.op=.call { callee:=.value f,args:=args,argTypes:=ts })
  (nz:sn e true (f::args.toList)) {py:FuncId} (hf:e.getS f=.fn (.func py) [] []) {x:V} (hP:APure P py (args.toList.map λy=>qL e.h (e.getS y)) x) (hx:Cs x=true) {next:Act->World->Prop} {hu:Exit->Act->World->Prop}
  (fQ:∀w' u,HSim c e.h w'->E.ok c e.h w'->Rel c x u->next (a.put o.dst u) w'):o.wp P a w next hu:=by
 have pq:=yh s nz;have bQ:=pq f Z;rw[hf]at bQ;have nZ:a.eval f=.func (.func py) #[] #[]:=by
  generalize a.eval f=hI at bQ;cases bQ with
  |data h=>cases h
  |fn f ys xs us vs w6 hl Y h =>
   grind
 have sF:RelL (oY w) (args.toList.map λy=>qL e.h (e.getS y)) (args.map a.eval):=by refine⟨Z,λj y v hy hv=>?_⟩;simp only[ja,iy]at hy;obtain⟨hI,hz,rfl⟩:=hy;simp only[mg,iy]at hv;obtain⟨z',hz',rfl⟩:=hv;have:z'=hI:=W;subst this;exact Jq s.hs (pq z' W)
 have hA:=hP [];unfold Oper.wp;rw[Bc ho nZ hA.1];simp only[qjq,qj4];refine(hA.2 (oY w) w _ (QV w) sF).mono ?_;rintro en w' ⟨r,Y,c',⟨rfl,rfl⟩,hE,o9,qh⟩;have cG:∀b,b<w.heap.size->w'.heap[b]?=w.heap[b]?:=λb hb=>qh.frame b hb λi o hi=>by simp at hi
 cases en with
 |returned u =>
  have eH:Rel c' x u:=hE;refine fQ w' u (s.hs.ext cG (.refl c) (λ_ _=>rfl) (λ_ _ _ h=>.inl h) s.hs.dom) (k.ext' s.hs cG (.refl c) (λ_=>rfl) qh.os qh.tape qh.output qh.size λ_ _ _ h=>.inl h) (Kw hx eH)
 |_=>simp[EndR]at hE
def Ll(P:Program)(N:Nat)(o:Oper)(e:Env)(K:Env->Prop):Prop :=
 o.guard=none/\iJ N o.dst/\match o.op with
  | .call { callee:=.value f,args,.. }=>sn e true (f::args.toList)/\match e.getS f with
   | .fn (.func py) [] []=>∃x,APure P py (args.toList.map λy=>qL e.h (e.getS y)) x/\Cs x=true/\K (e.put o.dst x)
   |_=>False
  |_=>False
def OR{hu:AExit->Env->Prop}{om:Array Oper}{o:Oper}{l2:List Oper}:∀(l1 done:List Oper) (e:Env),om.toList=done++(l1++o::l2) ->
  pB P E.N (λx e1=>match x with
   | .normal=>Ll P E.N o e1 λe2=>pB P E.N hu ((done++l1++[o]).map (·.dst)) l2 e2
   |x=>hu x e1) (done.map (·.dst)) l1 e->vZ P E om (l1++o::l2) hu e
 | [],done,e,dD,h=>by
  intro c a w s k;simp only[pB]at h;obtain⟨hg,hd,h⟩:=h;simp only[ke];refine nX (hr:=true) qhk (λ_=>?_) (λh=>by cases h);split at h
  .rename_i f args ts p8;obtain⟨nz,h⟩:=h;split at h
   .rename_i py hf;obtain⟨x,hP,hx,hK⟩:=h;refine T4 s k p8 nz hf hP hx λw' u o9 qh G=>?_;exact lF l2 (done++[]++[o]) _ W hK c _ w' (s.put (.refl c) o9 (Cx hd) G) (by cases o.dst<;>exact qh)
   grind
  grind
 |p::l1,done,e,dD,h=>by have ih:=λe'=>OR (hu:=hu) (om:=om) (o:=o) (l2:=l2) l1 (done++[p]) e' W;simp only[jr,jd,kf,jf,mb,ke]at ih;intro c a w s k;simp only[pB]at h;refine JO h (λhr hG=>CL dD s hG) s k (λv e' c' a' w' u hq G hs hk=>⟨.panic v,e',c',hq,G,hs,hk⟩) λe' c' a' w' hK s' k'=>?_;exact ih e' cy c' a' w' s' k'
def Ns{hu:AExit->Env->Prop}{om:Array Oper}{l2:List Oper}:∀(l1 done:List Oper) (e:Env),om.toList=done++(l1++l2) ->
  pB P E.N (λx e1=>match x with
   | .normal=>vZ P E om l2 hu e1
   |x=>hu x e1) (done.map (·.dst)) l1 e->vZ P E om (l1++l2) hu e
 | [],done,e,dD,h=>h
 |p::l1,done,e,dD,h=>by have ih:=λe'=>Ns (hu:=hu) (om:=om) (l2:=l2) l1 (done++[p]) e' W;simp only[jr,jd,kf]at ih;intro c a w s k;simp only[pB]at h;refine JO h (λhr hG=>CL dD s hG) s k (λv e' c' a' w' u hq G hs hk=>⟨.panic v,e',c',hq,G,hs,hk⟩) λe' c' a' w' hK s' k'=>?_;exact ih e' hK c' a' w' s' k'
def qU(l1 l2:List Oper) (h:pB P E.N (λx e1=>match x with
   | .normal=>vZ P E (l1++l2).toArray l2 hu e1
   |x=>hu x e1) [] l1 e):AWp P E (.region id (l1++l2).toArray false) hu e :=
 GG (by have:=Ns (hu:=hu) (om:=(l1++l2).toArray) (l2:=l2) l1 [] e Z ej;simpa using this)
def Us(l1:List Oper){l2:List Oper} (h:pB P E.N (λx e1=>match x with
   | .normal=>Ll P E.N o e1 λe2=>pB P E.N hu ((l1++[o]).map (·.dst)) l2 e2
   |x=>hu x e1) [] l1 e):AWp P E (.region id (l1++o::l2).toArray false) hu e :=
 GG (by have:=OR (hu:=hu) (om:=(l1++o::l2).toArray) (o:=o) (l2:=l2) l1 [] e Z ej;simpa using this)
end
end
end Go.Abs

namespace Go.Abs
open Go.Proofs Go.Shelf
def wF{b:Nat}{e:TypeId}{fz:Nat×Nat}:∀(vs:List Value) (o:Nat) (w:World) (nu:Array Value),w.heap[b]?=some (.cells nu e fz)->o+vs.length<=nu.size ->
  ∃rX,(w.setCells b o vs).heap[b]?=some (.cells rX e fz)/\rX.size=nu.size/\(∀j:Nat,rX[j]?=if o<=j/\j<o+vs.length then vs[j - o]? else nu[j]?)/\(w.setCells b o vs).heap.size=w.heap.size /\
   (w.setCells b o vs).os=w.os/\(w.setCells b o vs).tape=w.tape/\(w.setCells b o vs).output=w.output/\∀k,k≠b->(w.setCells b o vs).heap[k]?=w.heap[k]?
 | [],o,w,nu,h,_=>⟨nu,h,rfl,λj=>by simp;intro O U;omega,rfl,rfl,rfl,rfl,λ_ _=>rfl⟩
 |v::vs,o,w,nu,h,hl=>by
  simp only[jp]at hl;have hb:b<w.heap.size:=(qjg.1 h).1;have hv:w.heap[b]=.cells nu e fz:=(qjg.1 h).2;have O:(w.setCell ⟨b,o,none⟩ v).heap[b]?=some (.cells (nu.setIfInBounds o v) e fz):=by unfold World.setCell;grind
  obtain⟨rX,g1,g2,g3,g4,g5,g6,g7,g8⟩:=wF vs (o+1) (w.setCell ⟨b,o,none⟩ v) (nu.setIfInBounds o v) O au;refine⟨rX,g1,by rw[g2];simp,λj=>?_,by rw[World.setCells,g4];simp,g5,g6,g7,λk hk=>?_⟩
  .grind
  rw[World.setCells,g8 k hk];unfold World.setCell;grind
structure InsPost(w w':World)(v v':Value)(e:TypeId)(n:Nat)(us:List Value):Prop where
 one:v'.oneCell'=true
 own:w'.ownsRow 0 e 1 v' n us
 os:w'.os=w.os
 tape:w'.tape=w.tape
 output:w'.output=w.output
 size:w.heap.size<=w'.heap.size
 two:(∃g,v.ownBlock=some g/\v'.ownBlock=some g/\∀k,k≠g->w'.heap[k]?=w.heap[k]?)\/(v'.ownBlock=some w.heap.size/\∀k,k<w.heap.size->w'.heap[k]?=w.heap[k]?)
def Ug(hI:Array Value)(n:Nat)(hz:hI.size=1):(Builtin.zeroCells hI n).size=n:=by simp[Builtin.zeroCells,hz]
def Wu{P:Program}{ρ:Ren}(h0:Lays2.n22 P ρ){w:World}{v:Value}{n:Nat}{cs:List Value}(tp:w.ownsRow 0 (ρ.t 9) 1 v n cs)(tc:∀u∈cs,u.oneCell'=true){nk:Nat}(hat:nk<=n)(hn:n+1<=68719476736)
  {vb vc:Nat} {kv:Value} {tA:TypeId} (hk:w.heap[vb]?=some (.cells #[kv] tA (0,0))) (hk1:kv.oneCell'=true) (nv:∀g,v.ownBlock=some g->vb≠g) :
  Calls P (ρ.f 22) #[v,.int .i64 nk,.slice (some ⟨vb,0,none⟩) 1 vc] w λe w'=>∃v',e=.returned v'/\InsPost w w' v v' (ρ.t 9) (n+1) (cs.take nk++kv::cs.drop nk):=by
 have iY:∀j u,[kv][j]?=some u->w.cell? ⟨vb,0+j,none⟩=some u:=λj u Q=>by
  cases j with
  |zero=>simp at Q;subst Q;simp[World.cell?,hk]
  |succ j=>simp at Q
 have AC:∀u∈[kv],u.oneCell'=true:=λu Q=>by simp at Q;subst Q;exact hk1
 have hzc:∀m,(Builtin.zeroCells (Value.string ⟨#[]⟩).cells m).size=m:=λm=>Ug _ m rfl;have jD:cs.length=n:=by have:=tp.1;omega
 have fT:nk=n->cs.take nk++kv::cs.drop nk=cs++[kv]:=λh=>by grind
 have u0:=grownCap_ge w (n+1);have r9:=λold=>grownCap_le_maxLen w (n+1) old (ρ.t 9) dm;rcases tp.2 with⟨rfl,rfl⟩|⟨g,cap,nu,rfl,_,hg,uh,zF,su,eS⟩
 .
  have cP:nk=0:=J;subst cP;have hnil:cs=[]:=ko jD;subst hnil;refine(Any2.slices_Insert_string_end_grow h0 none 0 0 vb 0 1 vc [] [kv] w J (gj _) J J rfl rfl (λ_=>rfl) (λa h=>by cases h) iY AC).mono ?_;rintro e w' ⟨rfl,rfl⟩;refine⟨_,rfl,rfl,⟨Z,.inr ⟨w.heap.size,_,_,rfl,il _,li _ _,u0 0 _,r9 0,?_,Z⟩⟩,rfl,rfl,rfl,Z,.inr ⟨rfl,λk hk=>jO _ _ _ hk⟩⟩;have:=u0 0 (ρ.t 9);grind
 have hcc:cap<=9223372036854775807:=by simp only[maxLen]at zF;omega
 have hvb:vb≠g:=nv g rfl;have s6:∀j u,cs[j]?=some u->w.cell? ⟨g,0+j,none⟩=some u:=λj u Q=>by
  have:=tp.cells (g:=g) rfl j u Q
  rwa [cM]at this
 have zJ:nu.size=cap:=J;have HO:∀j,j<cap->(w.cell? ⟨g,0+j,none⟩).isSome=true:=λj hj=>by simp[World.cell?,hg];omega
 have hfz:∀j,w.frozen? ⟨g,0+j,none⟩=false:=λj=>by simp[World.frozen?,hg]
 have hcurn:∀j,j<n->nu[j]?=cs[j]?:=λj hj=>by grind
 rcases jz nk n with ni|hge'
 .rcases jz cap (n+1)with eG|eG
  .
   refine(Any2.slices_Insert_string_grow h0 g 0 n cap nk vb 0 1 vc cs [kv] w ni J uh eG J jD rfl s6 iY tc AC).mono ?_;rintro e w' ⟨rfl,rfl⟩;have iK:=u0 cap (ρ.t 9);have L:(w.alloc (.cells ((cs.take nk).toArray++Builtin.zeroCells (Value.string ⟨#[]⟩).cells (n+1 - nk)++Builtin.zeroCells (Value.string ⟨#[]⟩).cells (grownCap w (n+1) cap (ρ.t 9) - (n+1))) (ρ.t 9))).drew.heap[w.heap.size]?=some (.cells ((cs.take nk).toArray++Builtin.zeroCells (Value.string ⟨#[]⟩).cells (n+1 - nk)++Builtin.zeroCells (Value.string ⟨#[]⟩).cells (grownCap w (n+1) cap (ρ.t 9) - (n+1))) (ρ.t 9) (0,0)):=li _ _;have p6:((cs.take nk).toArray++Builtin.zeroCells (Value.string ⟨#[]⟩).cells (n+1 - nk)++Builtin.zeroCells (Value.string ⟨#[]⟩).cells (grownCap w (n+1) cap (ρ.t 9) - (n+1))).size=grownCap w (n+1) cap (ρ.t 9):=W;obtain⟨c1,a1,a2,a3,a4,a5,a6,a7,a8⟩:=wF [kv] nk _ _ L W;obtain⟨c2,b1,b2,b3,b4,b5,b6,b7,b8⟩:=wF (cs.drop nk) (nk+1) ((w.alloc (.cells ((cs.take nk).toArray++Builtin.zeroCells (Value.string ⟨#[]⟩).cells (n+1 - nk)++Builtin.zeroCells (Value.string ⟨#[]⟩).cells (grownCap w (n+1) cap (ρ.t 9) - (n+1))) (ρ.t 9))).drew.setCells w.heap.size nk [kv]).drew c1 a1 W;refine⟨_,rfl,rfl,⟨by simp[jD];omega,.inr ⟨w.heap.size,_,c2,rfl,il _,b1,iK,r9 cap,by rw[b2,a2,p6];omega,?_⟩⟩,?_,?_,?_,?_,.inr ⟨rfl,λk hk=>?_⟩⟩
   .apply kp;intro j;rw[jo,kq,b3 j,a3 j];simp only[qiw,jD,jp,ju];by_cases O:j<nk
    .grind
    by_cases U:j=nk
    .subst U;rw[gh J,gg J,gh J,gz W];simp[jD,lx hat]
    by_cases h3:j<n+1
    .rw[gh J,gh J,gz W];simp only[kc,jD,lx hat];rw[show j - nk=(j - (nk+1))+1 by omega];rfl
    grind
   .rw[b5];exact a5
   .rw[b6];exact a6
   .rw[b7];exact a7
   .grind
   rw[b8 k J];show((w.alloc _).drew.setCells w.heap.size nk [kv]).heap[k]?=_;rw[a8 k J];exact jO _ _ _ hk
  .
   refine(Any2.slices_Insert_string_shift h0 g 0 n cap nk vb 0 1 vc cs [kv] w ni J eG hcc hvb jD rfl s6 (λj hj=>HO j J) (λj _=>hfz j) iY tc AC tA (ρ.t 9) 1 cap (by simp[World.shape?,hk]) (by simp[World.shape?,hg,zJ]) J qgl qgl).mono ?_;rintro e w' ⟨rfl,rfl⟩;obtain⟨c1,a1,a2,a3,a4,a5,a6,a7,a8⟩:=wF (cs.drop nk) (0+(nk+1)) w.drew nu hg W;obtain⟨c2,b1,b2,b3,b4,b5,b6,b7,b8⟩:=wF [kv] (0+nk) _ c1 a1 W;refine⟨_,rfl,rfl,⟨by simp[jD];omega,.inr ⟨g,cap,c2,rfl,il _,b1,eG,zF,by rw[b2,a2,su],?_⟩⟩,?_,?_,?_,?_,.inl ⟨g,rfl,rfl,λk hk=>?_⟩⟩
   .apply kp;intro j;rw[jo,kq,b3 j,a3 j];simp only[qiw,jD,jp,ju,im];by_cases O:j<nk
    .grind
    by_cases U:j=nk
    .subst U;rw[gh J,gh J,gz W];grind
    by_cases h3:j<n+1
    .rw[gh J,gg J,gh J,gz W];simp only[kc,jD,lx hat];rw[show j - nk=(j - (nk+1))+1 by omega];rfl
    grind
   .rw[b5];exact a5
   .simp_all
   .rw[b7];exact a7
   .simp_all
   rw[b8 k hk,a8 k hk];rfl
 have hpn:nk=n:=J;subst hpn;rw[fT rfl];rcases jz cap (nk+1)with eG|eG
 .
  refine(Any2.slices_Insert_string_end_grow h0 (some ⟨g,0,none⟩) nk cap vb 0 1 vc cs [kv] w J uh eG J jD rfl (λh=>by cases h) (λa h=>by cases h;exact λj u Q=>by rw[cM];exact s6 j u Q) iY AC).mono ?_;rintro e w' ⟨rfl,rfl⟩;have iK:=u0 cap (ρ.t 9);refine⟨_,rfl,rfl,⟨by simp[jD],.inr ⟨w.heap.size,_,_,rfl,il _,li _ _,iK,r9 cap,?_,?_⟩⟩,rfl,rfl,rfl,Z,.inr ⟨rfl,λk hk=>jO _ _ _ hk⟩⟩
  .grind
  grind
 .
  refine(Any2.slices_Insert_string_end_room h0 g 0 nk cap vb 0 1 vc [kv] w J eG hcc rfl (λj hj=>by have:=HO (nk+j) J;rwa [im]at this|-) (λj _=>by simp[World.frozen?,hg]) iY AC).mono ?_;rintro e w' ⟨rfl,rfl⟩;obtain⟨c1,a1,a2,a3,a4,a5,a6,a7,a8⟩:=wF [kv] (0+nk) w nu hg au;refine⟨_,rfl,rfl,⟨by simp[jD],.inr ⟨g,cap,c1,rfl,il _,a1,eG,zF,by rw[a2,su],?_⟩⟩,a5,a6,a7,by rw[a4];exact gj _,.inl ⟨g,rfl,rfl,a8⟩⟩;apply kp;intro j;rw[jo,kq,a3 j];grind
end Go.Abs

namespace Go.Abs
open Go.Proofs Go.Shelf
section
variable {P:Program} {E:Ent}
def R3{T el:TypeId}(hk:nj P T=.slice el 1)(vd:nj P el≠.other)(hsize:oh P el=1){v:Value}(O:v.oneCell'=true)(w:World) :
  (Instr.buildSlice T 1 #[(0,v)]).run P w=.ok (.slice (some ⟨w.heap.size,0,none⟩) 1 1) (w.alloc (.cells #[v] el)):=by
 obtain⟨iT,dT,zT,_,wm,_,aV,_⟩:=rk hk Z;obtain⟨rfl,ie,r5,bV⟩:=cH aV;obtain⟨ie',de,ze,wt,_,gH,_,hts,_,zf,zd⟩:=rk (P:=P) (t:=el) rfl vd;rw[r5]at wt;cases wt;have iH:(zeroValue el).run P w=.ok ze w:=qfv;have hvc:v.cells = #[v]:=PX O;have hz:ze.cells.size=1:=J;simp only[Instr.buildSlice,iu,vo wm,iv,eO r5,bV];have fK:¬(1 * 1 > 2 ^ 24):=ax;rw[gg fK,gg ax];simp only[iu,iH,iv,je];have hf:Instr.fill (λi=>some (i * 1,1)) ((Array.range (1 * 1)).map (ze.cells[· % ze.cells.size]!)) [(0,v)]=some #[v]:=by simp[Instr.fill,hvc,hz,show Array.range 1 = #[0]from rfl]
 simp only[hf,newRow,iu,Cv,iv,je]
def UE{ρ:Ren}(h0:Lays2.n22 P ρ){c:Ctx}{e:Env}{a:Act}{w:World}(s:Sim E.N c e a w)(k:E.ok c e.h w){om:Array Oper}{rest:List Oper}{o1 o2:Oper}{hu:Exit->Act->World->Prop}{T:TypeId}{x xa xb f:Operand}{d1:Nat}{ts:Array TypeId}
  (g1:o1.guard=none) (g2:o2.guard=none) (hd1:o1.dst=some d1) (hlt1:d1<E.N) (pG:iJ E.N o2.dst) (hop1:o1.op=.buildSlice T 1 #[(0,x)]) (hop2:o2.op=.call { callee:=.value f,args:=#[xa,xb,.tmp d1],argTypes:=ts })
  (hT:nj P T=.slice (ρ.t 9) 1) (hel:nj P (ρ.t 9)≠.other) (p6:oh P (ρ.t 9)=1) (hx:sn e true [x,xa,xb,f]) {key:ByteArray} (hxk:e.getS x=.val (.string key)) {i n:Nat} (hxa:e.getS xa=.own i n) {nk:Nat} (hxb:e.getS xb=.val (.int .i64 nk))
  (nv:∀t,xa=.tmp t->t≠d1) (hneb:∀t,xb=.tmp t->t≠d1) (hf:f=.func (ρ.f 22)) {S:List (List V)} (hi:e.h[i]?=some (.uarr (ρ.t 9) 1 S)) (hn:S.length=n) (hpos:nk<=n) (oy:n+1<=68719476736) (hE22:yZ P (ρ.f 22))
  (aY:∀c' a' w',Sim E.N c' ((({ e with h:=e.h.set i (.uarr (ρ.t 9) 1 (S.take nk++[.val (.string key)]::S.drop nk)) }:Env).put o1.dst (.slice [[.val (.string key)]])).put o2.dst (.own i (n+1))) a' w'->E.ok c' (e.h.set i (.uarr (ρ.t 9) 1 (S.take nk++[.val (.string key)]::S.drop nk))) w'->wpList P om hu rest a' w') :
  wpList P om hu (o1::o2::rest) a w:=by
 have pq:=yh s hx;have ss:=pq x Z;have AW:=pq xa Z;have hrxb:=pq xb Z;rw[hxk]at ss;rw[hxa]at AW;rw[hxb]at hrxb;have hvx:a.eval x=.string key:=ss.val_inv;have hvb:a.eval xb=.int .i64 nk:=hrxb.val_inv;have Du:=R3 (P:=P) hT hel p6 (v:=.string key) rfl w;obtain⟨c1,kR,s1,k1,hD1⟩:=EP s.hs k #[.string key] (ρ.t 9);refine nX (hr:=true) cj (λ_=>?_) (λh=>by cases h);refine cL (w':=w.alloc (.cells #[.string key] (ρ.t 9))) (v:=.slice (some ⟨w.heap.size,0,none⟩) 1 1) qfx ?_;have hlit:Rel c1 (.slice [[.val (.string key)]]) (.slice (some ⟨w.heap.size,0,none⟩) 1 1):=by
  refine .data (.slice [[.val (.string key)]] w.heap.size 0 1 1 (λ_ _=>.string key) Z Z Z (λi j r x' G hx=>?_) λi j r x' G hx=>?_)
  .grind
  cases i with
  |zero =>
   simp at G;subst G;cases j with
   |zero=>simp at hx;subst hx;exact .val _ rfl (rK ss)
   |succ j=>simp at hx
  |succ i=>simp at G
 have s2:Sim E.N c1 (e.put o1.dst (.slice [[.val (.string key)]])) (a.put o1.dst (.slice (some ⟨w.heap.size,0,none⟩) 1 1)) (w.alloc (.cells #[.string key] (ρ.t 9))) :=
  s.put kR s1 (λj hj=>by rw[hd1]at hj;cases hj;exact hlt1) hlit
 obtain⟨hv,vs,tp,u3,iA⟩:=Bb s1 hi hn (AW.mono kR);have hrow1:∀j u,vs[j]?=some u->∃r x,S[j]?=some r/\r[0]?=some x/\DRel c1.D x u:=λj u Q=>by
  have ni:j<S.length:=by have:=(gn.1 Q).1;rw[tp.1]at this;omega
  have G:S[j]?=some S[j]:=ba;have hrl':=u3 _ (gw G);have vl:S[j][0]?=some (S[j][0]'J):=Z;obtain⟨u',gJ,hd⟩:=iA j 0 _ _ G vl;rw[Nat.mul_one,jt,Q]at gJ;cases gJ;exact⟨_,_,G,vl,hd⟩
 have tc:∀u,u∈vs->u.oneCell'=true:=λu Q=>by obtain⟨j,hj⟩:=iw Q;obtain⟨r,x,_,_,hd⟩:=hrow1 j u hj;exact hd.one
 have xA:w.heap.size<(w.alloc (.cells #[.string key] (ρ.t 9))).heap.size:=Z;have hkeep:(w.alloc (.cells #[.string key] (ρ.t 9))).heap[w.heap.size]?=some (.cells #[.string key] (ρ.t 9) (0,0)):=li _ _;have y6:∀g,(a.eval xa).ownBlock=some g->w.heap.size≠g:=λg hg e1=>by
  have tj:c.sl i n=some (a.eval xa):=by
   cases AW with
   |data h=>cases h
   |own _ _ _ h _=>exact h
  have hb:ou c i (.uarr (ρ.t 9) 1 S)=some g:=cx;have:=(s.hs.obj i _ hi).lt hb;omega
 have lK:=Wu h0 tp tc hpos oy (vb:=w.heap.size) (vc:=1) hkeep rfl y6;have heva:(a.put o1.dst (.slice (some ⟨w.heap.size,0,none⟩) 1 1)).eval xa=a.eval xa:=by
  rw[hd1];cases xa with
  |tmp t=>have:=nv t rfl;simp[Act.put,Act.eval,qim (Ne.symm this),jq]
  |_=>rfl
 have hevb:(a.put o1.dst (.slice (some ⟨w.heap.size,0,none⟩) 1 1)).eval xb=.int .i64 nk:=by
  rw[<-hvb,hd1];cases xb with
  |tmp t=>have:=hneb t rfl;simp[Act.put,Act.eval,qim (Ne.symm this),jq]
  |_=>rfl
 have bS:d1<a.tmps.size:=qhs;have hevd:(a.put o1.dst (.slice (some ⟨w.heap.size,0,none⟩) 1 1)).eval (.tmp d1)=.slice (some ⟨w.heap.size,0,none⟩) 1 1:=by rw[hd1];simp[Act.put,Act.eval,bS]
 refine nX (hr:=true) qhl (λ_=>?_) (λh=>by cases h);unfold Oper.wp;rw[Bc (us:=#[]) (vs:=#[]) hop2 (by rw[hf];rfl) hE22];simp only[qjq,qj4,qjj,jd,kf,heva,hevb,hevd];refine lK.mono ?_;rintro en w' ⟨v',rfl,iV⟩;have hrlen:S.length=n:=hn;have BC:(S.take nk++[.val (.string key)]::S.drop nk).length=n+1:=au;obtain⟨c2,nH,s3,k3,qE⟩:=Kb (E:=E) s1 k1 (qq:=S.take nk++[.val (.string key)]::S.drop nk) (us:=vs.take nk++.string key::vs.drop nk) hi W J J (λr G=>by
   rcases jj.1 G with G|G
   .grind
   .rcases iq.1 G with rfl|G
    .rfl
    exact u3 r (qjh G)) (λi' j r x G hx=>by
   have hvl:vs.length=n:=by have:=tp.1;omega
   have hj0:∀r':List V,r'.length=1->r'[j]?=some x->j=0:=λr' o6 um=>by have:=(gn.1 um).1;omega
   by_cases O:i'<nk
   .grind
   rw[gz au]at G;simp only[kc,hrlen,lx hpos]at G;by_cases U:i'=nk
   .subst U;rw[kh]at G;simp at G;subst G;have hj:=hj0 [_] rfl hx;subst hj;simp at hx;subst hx;refine⟨.string key,?_,.val _ rfl (rK ss)⟩;rw[Nat.mul_one,jt,gz au];simp[hvl,lx hpos]
   rw[show i' - nk=(i' - (nk+1))+1 by omega]at G;simp only[qjk,kj]at G;rw[show nk+(i' - (nk+1))=i' - 1 by omega]at G;have hj:=hj0 r (u3 r (gw G)) hx;subst hj;obtain⟨u,Q,hd⟩:=iA (i' - 1) 0 r x G hx;refine⟨u,?_,hd⟩;rw[Nat.mul_one,jt]at Q|-;rw[gz au];simp only[kc,hvl,lx hpos];rw[show i' - nk=(i' - (nk+1))+1 by omega];simp only[qjk,kj];rw[show nk+(i' - (nk+1))=i' - 1 by omega];exact Q) iV.one (by rw[BC];exact iV.own) iV.os iV.tape iV.output iV.size iV.two
 exact Qda
end
end Go.Abs

namespace Go.Abs
section
variable {P:Program} {E:Ent}
section
variable{w:World}{sz d1:Nat}{v:Value}{e:Env}{om:Array Oper}{rest:List Oper}{o1:Oper}{hu:Exit->Act->World->Prop}{T el:TypeId}
def Sv{c:Ctx}{h:mz}(s:HSim c h w)(k:E.ok c h w)(e:TypeId){n cap:Nat}{nu:Array Value}{S:List (List V)}(hn:S.length=n)(CR:n<=cap)(r9:cap<=maxLen)(oy:n<=68719476736)
  (td:∀r,r∈S->r.length=sz) (hsize:nu.size=cap * sz)
  (dF:∀(i' j:Nat) (r:List V) (x:V),S[i']?=some r->r[j]?=some x->∃u,(nu.toList.take (n * sz))[i' * sz+j]?=some u/\DRel c.D x u) :
  c.le (c.addSl h.length n (.slice (some ⟨w.heap.size,0,none⟩) n cap))/\HSim (c.addSl h.length n (.slice (some ⟨w.heap.size,0,none⟩) n cap)) (h++[.uarr e sz S]) (w.alloc (.cells nu e)) /\
   E.ok (c.addSl h.length n (.slice (some ⟨w.heap.size,0,none⟩) n cap)) (h++[.uarr e sz S]) (w.alloc (.cells nu e)):=by
 obtain⟨v0,kL⟩:∃v0,v0=Value.slice (some ⟨w.heap.size,0,none⟩) n cap:=⟨_,rfl⟩
 rw[<-kL];have nh:c.le (c.addSl h.length n v0):=Ctx.addSl_le ((s.dom _ (gj _)).2 n);have tj:∀i,i<h.length->∀m,(c.addSl h.length n v0).sl i m=c.sl i m:=λi hi m=>by grind[Ctx.addSl]
 have ni:∀{i:Nat} {o:AObj},h[i]?=some o->i<h.length:=λhi=>(gn.1 hi).1;have bF:ou (c.addSl h.length n v0) h.length (.uarr e sz S)=some w.heap.size:=qh6;have cG:∀b,b<w.heap.size->(w.alloc (.cells nu e)).heap[b]?=w.heap[b]?:=λb hb=>jO w _ b hb;refine⟨nh,⟨λb j v hD=>?_,λi hi=>?_,λi o hi=>?_,λi j o o' b hi hj hb nl=>?_,λi o b j v hi hb hD=>?_⟩,⟨k.edom,k.ext.trans nh,k.blk0,ck,k.os,k.tape,k.output,jh k.size (sV w _),λb hb qz=>?_,λi o b hi hb=>?_,k.dold⟩⟩
 .exact Qdb
 .exact Qbd
 .rcases ve hi with O|⟨rfl,rfl⟩
  .exact Qdc
  refine⟨v0,nu.toList.take (n * sz),by simp[Ctx.addSl,hn],qh8,λm hm=>?_,?_,J,td,dF⟩
  .exact Qbf
  rw[kL,hn];refine⟨?_,.inr ⟨w.heap.size,cap,nu,rfl,il _,li w _,CR,r9,hsize,rfl⟩⟩
  simp_all
 .rcases ve hi with O|⟨rfl,rfl⟩<;>rcases ve hj with U|⟨rfl,rfl⟩
  .exact Qbg
  .exact Qdd
  .exact Qde
  rfl
 .have v7:c.D b j=some v:=hD;rcases ve hi with O|⟨rfl,rfl⟩
  .exact Qdf
  rw[bF]at hb;cases hb;rw[s.noD (gj _)]at v7;cases v7
 .rw[cG b (qiu hb k.size)];exact k.frame b hb qz
 rcases ve hi with O|⟨rfl,rfl⟩
 .exact Qbi
 rw[bF]at hb;cases hb;exact .inr k.size
def jM:Value->V
 | .slice none 0 0=>.slice []
 |v=>.val v
def uB(v:Value):Bool:=match v with
 | .slice none 0 0=>true
 |v=>v.oneCell'&&iU v
def Hb{D:Nat->Nat->Option Value}(h:uB v=true):DRel D (jM v) v:=by
 unfold uB at h;unfold jM;split
 .exact .nil
 rename_i nv;split at h
 .grind
 simp only[gy]at h;exact .val v h.1 h.2
theorem ql0{c:Ctx}{a:Act}(s:Sim E.N c e a w)(k:E.ok c e.h w){x:Operand}{n:Nat}{i:TypeInfo}{hI:Value}
  (g1:o1.guard=none) (hd1:o1.dst=some d1) (hlt1:d1<E.N) (hop1:o1.op=.makeSlice T x x)
  (ht:P.underlying T=some (.slice el)) (hi:P.info? el=some i) (hz:i.zero=some hI) (zf:hI.cells.size=i.size) (hpos:0<i.size) (hbytes:i.bytes<=2048) (hzok:∀v,v∈hI.cells.toList->uB v=true)
  (hx:sn e true [x]) (hxv:e.getS x=.val (.int .i64 n)) (hn:n<=68719476736)
  (aY:∀c' a' w',Sim E.N c' (({ e with h:=e.h++[.uarr el i.size (List.replicate n (hI.cells.toList.map jM))] }:Env).put o1.dst (.own e.h.length n)) a' w'->E.ok c' (e.h++[.uarr el i.size (List.replicate n (hI.cells.toList.map jM))]) w'->wpList P om hu rest a' w') :
  wpList P om hu (o1::rest) a w:=by
 have ss:=yh s hx x Z;rw[hxv]at ss;have hvx:a.eval x=.int .i64 n:=ss.val_inv;have hbb:i.bytes * n<=2048 * 68719476736:=qi4 hbytes hn;have pj:=run_make (P:=P) w T el i hI ht hi hz .i64 .i64 (n:Int) (n:Int) J (Int.le_refl _) (by have:(i.bytes:Int) * (n:Int)=((i.bytes * n:Nat):Int):=Z;omega) J
 simp only[qj5]at pj;have wb:∀m,m<n * i.size->(madeCells hI.cells (n * i.size))[m]?=hI.cells[m % i.size]?:=λm hm=>by unfold madeCells;grind[qik,ky]
 have p6:(madeCells hI.cells (n * i.size)).size=n * i.size:=by simp[madeCells]
 have hU:=Sv (E:=E) (n:=n) (cap:=n) (sz:=i.size) (nu:=madeCells hI.cells (n * i.size)) (S:=List.replicate n (hI.cells.toList.map jM)) s.hs k el Z (gj _) qgx hn (by
   intro r G;rw[List.eq_of_mem_replicate G];simp[zf]) p6 (by
   intro i' j r x' G um;have th:i'<n:=W;rw[qj6,gh th]at G;cases G;rw[ja]at um;obtain⟨u,Q,rfl⟩:=iy.1 um;have hj:j<i.size:=W;have ni:i' * i.size+j<n * i.size:=by have:(i'+1) * i.size<=n * i.size:=jl _ th;grind
   refine⟨u,?_,Hb (hzok u (gw Q))⟩;rw[jo,gh ni,kq,wb _ ni];have:(i' * i.size+j) % i.size=j:=qf1;rw[this,<-kq];exact Q)
 obtain⟨nh,s1,k1⟩:=hU;refine nX (hr:=true) cj (λ_=>?_) (λh=>by cases h);refine cL (w':=w.alloc (.cells (madeCells hI.cells (n * i.size)) el)) (v:=.slice (some ⟨w.heap.size,0,none⟩) n n) (by simp only[execOp,hop1,hvx,iu,pj,iv,je]) ?_;exact Qdg
def nM:V->V
 | .nils=>.slice []
 |x=>x
theorem F5(h:bD v≠.top):jM v=nM (bD v)/\(v.oneCell'=true->uB v=true):=by
 unfold bD at h|-;split at h
 .exact⟨rfl,λ_=>rfl⟩
 .split at h
  .rename_i hs;refine⟨?_,λ_=>?_⟩
   .rw[gh hs];rfl
   grind[uB,iU]
  grind
 rename_i O U;refine⟨?_,λho=>?_⟩
 .unfold jM;split
  .grind
  rfl
 grind[uB,iU]
def YF{c:Ctx}{a:Act}(s:Sim E.N c e a w)(k:E.ok c e.h w){x:Operand}{n:Nat}{zr:List V}
  (g1:o1.guard=none) (hd1:o1.dst=some d1) (hlt1:d1<E.N) (hop1:o1.op=.makeSlice T x x)
  (hT:nj P T=.slice el sz) (hel:nj P el≠.other) (hsize:oh P el=sz) (hpos:0<sz) (hbytes:pn P el<=2048) (hzt:∀x,x∈o8 P el->x≠.top) (hzr:(o8 P el).map nM=zr)
  (hx:sn e true [x]) (hxv:e.getS x=.val (.int .i64 n)) (hn:n<=68719476736)
  (aY:∀c' a' w',Sim E.N c' (({ e with h:=e.h++[.uarr el sz (List.replicate n zr)] }:Env).put o1.dst (.own e.h.length n)) a' w'->E.ok c' (e.h++[.uarr el sz (List.replicate n zr)]) w'->wpList P om hu rest a' w') :
  wpList P om hu (o1::rest) a w:=by
 obtain⟨iT,dT,zT,_,wm,_,aV,_⟩:=rk hT Z;obtain⟨rfl,ie,r5,bV⟩:=cH aV;obtain⟨ie',de,ze,wt,_,gH,vd,hts,htz,zf,zd⟩:=rk (P:=P) (t:=el) rfl hel;rw[r5]at wt;cases wt;subst bV;have hb:ie.bytes<=2048:=c9;have nz:∀v,v∈ze.cells.toList->jM v=nM (bD v)/\uB v=true:=λv hv=>by grind[qi8,F5]
 have td:ze.cells.toList.map jM=zr:=qfu;grind[ql0]
end
end
end Go.Abs

namespace Go.Abs
section
variable {P:Program} {E:Ent}
section
variable{h:mz}{w:World}{N s0:Nat}{o:Oper}{e e0:Env}{r:DR}{t:Tmp}{l:List Oper}{v:Value}{R:List DR}{X:Nat->Bool}
def WB{c:Ctx}(s:HSim c h w)(k:E.ok c h w){e:TypeId}{sz n b:Nat}{nu:Array Value}{S:List (List V)}(hb0:E.w.heap.size<=b)(Bj:w.heap[b]?=some (.cells nu e))
  (FH:∀i o,h[i]?=some o->ou c i o≠some b) (B0:∀j,c.D b j=none) (hn:S.length=n) (oy:n<=68719476736) (td:∀r,r∈S->r.length=sz) (hsize:nu.size=n * sz)
  (dF:∀(i' j:Nat) (r:List V) (x:V),S[i']?=some r->r[j]?=some x->∃u,(nu.toList.take (n * sz))[i' * sz+j]?=some u/\DRel c.D x u) :
  c.le (c.addSl h.length n (.slice (some ⟨b,0,none⟩) n n))/\HSim (c.addSl h.length n (.slice (some ⟨b,0,none⟩) n n)) (h++[.uarr e sz S]) w/\E.ok (c.addSl h.length n (.slice (some ⟨b,0,none⟩) n n)) (h++[.uarr e sz S]) w:=by
 obtain⟨v0,kL⟩:∃v0,v0=Value.slice (some ⟨b,0,none⟩) n n:=⟨_,rfl⟩
 rw[<-kL];have nh:c.le (c.addSl h.length n v0):=Ctx.addSl_le ((s.dom _ (gj _)).2 n);have tj:∀i,i<h.length->∀m,(c.addSl h.length n v0).sl i m=c.sl i m:=λi hi m=>by grind[Ctx.addSl]
 have ni:∀{i:Nat} {o:AObj},h[i]?=some o->i<h.length:=λhi=>(gn.1 hi).1;have bF:ou (c.addSl h.length n v0) h.length (.uarr e sz S)=some b:=qh6;refine⟨nh,⟨s.data,λi hi=>?_,λi o hi=>?_,λi j o o' b' hi hj hb nl=>?_,λi o b' j v hi hb hD=>?_⟩,⟨k.edom,k.ext.trans nh,k.blk0,ck,k.os,k.tape,k.output,k.size,k.frame,λi o b' hi hb=>?_,k.dold⟩⟩
 .exact Qbd
 .rcases ve hi with O|⟨rfl,rfl⟩
  .exact Qbe
  refine⟨v0,nu.toList.take (n * sz),by simp[Ctx.addSl,hn],qh8,λm hm=>?_,?_,J,td,dF⟩
  .exact Qbf
  rw[kL,hn];refine⟨?_,.inr ⟨b,n,nu,rfl,il _,Bj,gj _,qgx,hsize,rfl⟩⟩;grind
 .rcases ve hi with O|⟨rfl,rfl⟩<;>rcases ve hj with U|⟨rfl,rfl⟩
  .rw[(s.obj i o O).blk nh]at hb;rw[(s.obj j o' U).blk nh]at nl;exact s.apart i j o o' b' O U hb nl
  .rw[bF]at nl;rw[(s.obj i o O).blk nh]at hb;grind
  .rw[bF]at hb;rw[(s.obj j o' U).blk nh]at nl;grind
  rfl
 .have v7:c.D b' j=some v:=hD;rcases ve hi with O|⟨rfl,rfl⟩
  .rw[(s.obj i o O).blk nh]at hb;exact s.sep i o b' j v O hb v7
  grind
 rcases ve hi with O|⟨rfl,rfl⟩
 .rw[(s.obj i o O).blk nh]at hb;exact k.newobj i o b' O hb
 grind
inductive MK where
 |val
 |arr (el sz n:Nat) (zr:List V)
 |cell (xs:List V)
 |copy (t:Tmp)
def MK.made:MK->Bool
 | .val=>false
 | .copy _=>false
 |_=>true
def qQ(P:Program)(N:Nat)(o:Oper)(e:Env)(K:MK->DR->Prop):Prop :=
 o.guard=none/\iJ N o.dst/\match o.op with
 | .makeSlice T x y=>(x=y/\o.dst.isSome=true)/\match nj P T,e.getS x with
  | .slice el sz,.val (.int .i64 n)=>nj P el≠.other/\oh P el=sz/\0<sz/\pn P el<=2048/\(∀x,x∈o8 P el->x≠.top)/\sn e true [x]/\0<=n/\n<=68719476736/\K (.arr el sz n.toNat ((o8 P el).map nM)) ⟨o.dst,.top,.quiet none⟩
  |_,_=>False
 | .alloc T=>(nj P T≠.other/\o.dst.isSome=true)/\K (.cell (o8 P T)) ⟨o.dst,.top,.quiet none⟩
 | .pick ..=>False
 | .assign (.tmp t)=>match oz e.t t with
  | .top=>o.dst.isSome=true/\K (.copy t) ⟨o.dst,.top,.quiet none⟩
  |_=>sn e true [.tmp t]/\(wx P e.getS e.h (.assign (.tmp t))).side/\K .val ⟨o.dst,(wx P e.getS e.h (.assign (.tmp t))).val,.quiet none⟩
 |op=>cO op=false/\sn e true op.operands.toList/\(wx P e.getS e.h op).side/\K .val ⟨o.dst,(wx P e.getS e.h op).val,.quiet none⟩
def E4(P:Program)(N:Nat):List Oper->Env->List MK->(List MK->Env->Prop)->Prop
 | [],e,nw,K=>K nw e
 |o::l,e,nw,K=>qQ P N o e λm r=>E4 P N l (e.put r.dst r.res) (nw++[m]) K
def mV(e:Env)(o:Oper):MK->Env
 | .val=>e
 | .arr el sz n zr=>({ e with h:=e.h++[.uarr el sz (List.replicate n zr)] }:Env).put o.dst (.own e.h.length n)
 | .cell xs=>({ e with h:=e.h++[.cells xs] }:Env).put o.dst (.ptr e.h.length 0)
 | .copy t=>e.put o.dst (oz e.t t)
def lL:List Oper->List MK->Env->Env
 |o::l,m::ms,e=>lL l ms (mV e o m)
 |_,_,e=>e
def qnv{K:MK->DR->Prop}(h:qQ P N o e K):∃m r,qQ P N o e (λm' r'=>m'=m/\r'=r)/\K m r:=by unfold qQ at h|-;grind
def Dm{m:MK}(h:qQ P N o e (λm' r'=>m'=m/\r'=r)):r.k=.quiet none/\r.dst=o.dst:=by grind[qQ]
def Of(h:qQ P N o e (λm' r'=>m'=.copy t/\r'=r)):o.op=.assign (.tmp t):=by grind[qQ]
def Gj(l:List Oper):Bool:=(List.range l.length).all λk=>match l[k]? with
 |some o=>match o.op with
  | .assign (.tmp t)=>(List.range l.length).all λj=>match l[j]? with
   |some o'=>o'.dst != some t||decide (j<k)
   |none=>true
  |_=>true
 |none=>true
def qr6(h:Gj l=true){k j:Nat}{o':Oper}(hk:l[k]?=some o)(ho:o.op=.assign (.tmp t))(hj:l[j]?=some o')(hd:o'.dst=some t):j<k:=by grind[jk,Gj]
theorem Jg(h:r.k=.quiet none):r.next e=e.put r.dst r.res:=by grind[DR.next]
def L4{N:Nat}:∀{l:List Oper} {e:Env} {nw:List MK} {K:List MK->Env->Prop},E4 P N l e nw K ->
  ∃(R:List DR) (ms:List MK),R.length=l.length/\ms.length=l.length/\(∀(k:Nat) (o:Oper),l[k]?=some o->∃m r,ms[k]?=some m/\R[k]?=some r/\qQ P N o (oj e (R.take k)) λm' r'=>m'=m/\r'=r)/\K (nw++ms) (oj e R)
 | [],e,nw,K,h=>⟨[],[],rfl,rfl,Z,by simpa[oj,E4]using h⟩
 |o::l,e,nw,K,h=>by
  obtain⟨m,r,O,U⟩:=qnv h;obtain⟨R,ms,hl,hm,hk,hK⟩:=L4 U;have hq:=Jg (e:=e) (Dm O).1;refine⟨r::R,m::ms,fl,by simp[hm],λk o' ho=>?_,?_⟩
  .cases k with
   |zero =>
    simp_all[oj]
   |succ k =>
    grind[oj]
  grind[oj]
def MadeAt(c:Ctx)(w:World)(s0:Nat):MK->Nat->Value->Prop
 | .val,_,_=>True
 | .arr el sz n zr,b,v=>v=.slice (some ⟨b,0,none⟩) n n/\s0<=b/\n<=68719476736/\zr.length=sz/\∃nu,w.heap[b]?=some (.cells nu el)/\nu.size=n * sz /\
   ∀(i' j:Nat) (r:List V) (x:V),(List.replicate n zr)[i']?=some r->r[j]?=some x->∃u,(nu.toList.take (n * sz))[i' * sz+j]?=some u/\DRel c.D x u
 | .copy _,_,_=>True
 | .cell xs,b,v=>v=.pointer (some ⟨b,0,none⟩)/\s0<=b/\∃vs T,w.heap[b]?=some (.cells vs T)/\sN c xs vs
theorem MadeAt.lt{c:Ctx}{b:Nat}{m:MK}(hm:m.made=true)(h:MadeAt c w s0 m b v):b<w.heap.size/\s0<=b:=by
 cases m with
 |val=>cases hm
 |copy t=>cases hm
 |arr el sz n zr =>
  obtain⟨_,L,_,_,nu,O,_⟩:=h;grind
 |cell xs =>
  obtain⟨_,L,vs,T,O,_⟩:=h;grind
def MadeAt.keep{c:Ctx}{w':World}{b:Nat}{m:MK}(h:MadeAt c w s0 m b v)(hw:∀b,b<w.heap.size->w'.heap[b]?=w.heap[b]?):MadeAt c w' s0 m b v:=by
 cases m with
 |val=>trivial
 |copy t=>trivial
 |arr el sz n zr =>
  have hl:=(MadeAt.lt rfl h).1;obtain⟨a,b',d,e,nu,O,U⟩:=h;exact⟨a,b',d,e,nu,by rw[hw _ hl];exact O,U⟩
 |cell xs =>
  have hl:=(MadeAt.lt rfl h).1;obtain⟨a,b',vs,T,O,U⟩:=h;exact⟨a,b',vs,T,by rw[hw _ hl];exact O,U⟩
structure MReg(P:Program)(E:Ent)(l:List Oper)(e0:Env)(R:List DR)(ms:List MK):Prop where
 ok:DrawOk l
 len:R.length=l.length
 mlen:ms.length=l.length
 step:∀(k:Nat) (o:Oper),l[k]?=some o->∃m r,ms[k]?=some m/\R[k]?=some r/\qQ P E.N o (oj e0 (R.take k)) λm' r'=>m'=m/\r'=r
structure MInv(E:Ent)(s0:Nat)(e0:Env)(l:List Oper)(R:List DR)(ms:List MK)(c:Ctx)(X:Nat->Bool)(a:Act)(w:World):Prop where
 defers:a.defers=[]
 size:a.tmps.size=E.N
 tmps:∀t,Rel c (bT X t 0 R (oz e0.t t)) (a.tmps.getD t undef)
 hs:HSim c e0.h w
 ok:E.ok c e0.h w
 copies:∀k o t d,X k=true->l[k]?=some o->ms[k]?=some (.copy t)->o.dst=some d->(∀j o',l[j]?=some o'->o'.dst=some t->j<k)->a.tmps.getD d undef=a.tmps.getD t undef
 made:∃hN:Nat->Nat,(∀k o m d,X k=true->l[k]?=some o->ms[k]?=some m->m.made=true->o.dst=some d->MadeAt c w s0 m (hN k) (a.tmps.getD d undef)) /\
  (∀k k' o o' m m',X k=true->X k'=true->l[k]?=some o->l[k']?=some o'->ms[k]?=some m->ms[k']?=some m'->m.made=true->m'.made=true->o.dst≠none->o'.dst≠none->hN k=hN k'->k=k')
theorem HSim.alloc{c:Ctx}(s:HSim c h w)(o:Obj):HSim c h (w.alloc o):=s.ext (λb hb=>jO w _ b hb) (.refl c) (λ_ _=>rfl) (λ_ _ _ h=>.inl h) s.dom
theorem Ent.ok.alloc{c:Ctx}(k:E.ok c h w)(s:HSim c h w)(o:Obj):E.ok c h (w.alloc o):=k.ext' s (λb hb=>jO w _ b hb) (.refl c) (λ_=>rfl) rfl rfl rfl (sV w _) (λ_ _ _ h=>.inl h)
def XY{ms:List MK}(d:MReg P E l e0 R ms){c:Ctx}(qn:iS l X){a:Act}(hs0:s0<=w.heap.size)(inv:MInv E s0 e0 l R ms c X a w){i:Nat}(hi:l[i]?=some o)(xg:X i=false)
  (yx:∀e,e∈o.after->Region.binds .any e=true->X e.on=true) {hu:Exit->Act->World->Prop} :
  wpOp P l.toArray hu i (λa' w'=>s0<=w'.heap.size/\MInv E s0 e0 l R ms c (λj=>if j=i then true else X j) a' w') a w:=by
 obtain⟨m,r,hm,G,r7⟩:=d.step i o hi;obtain⟨hrk,qG⟩:=Dm r7;have dU:∀{k:Nat} {r:DR},R[k]?=some r->∃o,l[k]?=some o/\r.dst=o.dst:=λ{k r} hk=>by
  have ni:k<l.length:=by rw[<-d.len];exact(gn.1 hk).1
  obtain⟨_,r',_,U,h3⟩:=d.step k l[k] ba;rw[hk]at U;cases U;exact⟨l[k],ba,(Dm h3).2⟩
 have Av:∀t,t∈uU o.op.operands.toList++AF l o->Rel c (oz (oj e0 (R.take i)).t t) (a.tmps.getD t undef):=by
  intro t ht;have:=inv.tmps t;rw[Ck,Hq];rw[zU (h':=X)]
  .exact this
  intro j r' o6 hd;simp only[im,kg];obtain⟨o',qi,zn⟩:=dU o6;rw[zn]at hd;rcases d.ok.temps i o t j o' hi ht qi hd with rfl|gK
  .simp[xg]
  rcases qjs j i with h|h|h
  .exact Qcj
  .grind
  rw[lx (kb h),Nat.max_eq_right (kb h)]at gK;have hXj:X j=false:=by
   cases hX:X j with
   |false=>rfl
   |true=>have:=kW qn j i o' qi (qn j o' hX qi) gK;rw[xg]at this;cases this
  grind
 have dD:∀x,x∈o.op.operands.toList->Rel c ((oj e0 (R.take i)).get x) (a.eval x):=by
  intro x hx;cases x with
  |tmp t=>exact Av t (List.mem_append_left _ (by grind[uU]))
  |const v=>exact Lm c v
  |global g=>exact .top _
  |func f=>exact .fn _ [] [] #[] #[] rfl rfl Z Z
 have tL:∀h0:List Operand,(∀x,x∈h0->x∈o.op.operands.toList)->sn (oj e0 (R.take i)) true h0->∀x,x∈h0->Rel c ((oj e0 (R.take i)).getS x) (a.eval x):=λh0 hL nz x hx =>
  Cl (dD x (hL x hx)) (Gw nz x hx)
 have hh0:(oj e0 (R.take i)).h=e0.h:=by
  have:∀(R:List DR) (e:Env),(∀r∈R,r.k=.quiet none)->(oj e R).h=e.h:=λR=>by
   induction R with
   |nil=>intro e _;rfl
   |cons r R ih =>
    exact Qdh
  refine this _ _ λr G=>?_;obtain⟨k,hk⟩:=iw (qi2 G);obtain⟨o',qi,_⟩:=dU hk;obtain⟨_,r',_,U,h3⟩:=d.step k o' qi;rw[hk]at U;cases U;exact(Dm h3).1
 obtain⟨hg,hdok,p8⟩:=r7;have wb:(l.toArray)[i]?=some o:=W;have tm:∀(u:Value),Rel c r.res u->∀t,Rel c (bT (λj=>if j=i then true else X j) t 0 R (oz e0.t t)) ((a.put o.dst u).tmps.getD t undef):=λu Q t=>by
  have O:=B9 (X:=X) (t:=t) (k:=0) (x:=oz e0.t t) G (λj r' o6 hd hn=>by obtain⟨o',qi,zn⟩:=dU o6;exact d.ok.uniq i o j o' hi qi W W)
  simp only[im]at O;rw[O];cases dU:o.dst with
  |none =>
   rw[qG,dU,gg Z];exact inv.tmps t
  |some dd =>
   have ni:dd<a.tmps.size:=qgc;rw[qG,dU];by_cases hdt:dd=t
   .subst hdt;rw[gh rfl];simpa[Act.put,ni]using Q
   rw[gg W];have:=inv.tmps t;simpa[Act.put,jq,qim hdt]using this
 have RC:∀(u:Value) (k:Nat) (o':Oper) (dd:Nat),k≠i->l[k]?=some o'->o'.dst=some dd->(a.put o.dst u).tmps.getD dd undef=a.tmps.getD dd undef:=λu k o' dd hk qi zn=>by
  cases dU:o.dst with
  |none=>rfl
  |some d2 =>
   have:d2≠dd:=λe=>hk (d.ok.uniq i o k o' hi qi W W);simp[Act.put,jq,qim this]
 have slotNew:∀(u:Value) (dd:Nat),o.dst=some dd->(a.put o.dst u).tmps.getD dd undef=u:=λu dd zn=>by
  have ni:dd<a.tmps.size:=by rw[inv.size];rw[zn]at hdok;exact hdok
  rw[zn];simp[Act.put,ni]
 have pd:∀u:Value,(a.put o.dst u).defers=[]:=λu=>by cases o.dst<;>exact inv.defers
 have ps:∀u:Value,(a.put o.dst u).tmps.size=E.N:=λu=>by cases o.dst<;>simp[Act.put,inv.size]
 obtain⟨hN,pR,hB2⟩:=inv.made;have cp:∀u:Value,(∀t,m=.copy t->u=a.tmps.getD t undef)->∀k o' t dd,(if k=i then true else X k)=true->l[k]?=some o'->ms[k]?=some (.copy t)->o'.dst=some dd->(∀j o2,l[j]?=some o2->o2.dst=some t->j<k)->(a.put o.dst u).tmps.getD dd undef=(a.put o.dst u).tmps.getD t undef:=λu Q k o' t dd hX qi uz zn r7=>by
  have other:o.dst≠some t->(a.put o.dst u).tmps.getD t undef=a.tmps.getD t undef:=λnv=>by
   cases dU:o.dst with
   |none=>rfl
   |some d2 =>
    have:d2≠t:=λe=>nv W;simp[Act.put,jq,qim this]
  by_cases hk:k=i
  .grind
  rw[gg hk]at hX;rw[RC u k o' dd hk qi zn];have nv:o.dst≠some t:=λh=>by
   have hik:=r7 _ _ hi h;obtain⟨m3,r3,g1,_,g3⟩:=d.step k o' qi;rw[uz]at g1;cases g1;have hasg:=Of g3;have ht:t∈uU o'.op.operands.toList++AF l o':=by rw[hasg];exact List.mem_append_left _ (by simp[uU,Op.operands])
   rcases d.ok.temps k o' t i o qi ht hi h with e|gK
   .omega
   rw[Nat.min_eq_right (kb hik),Nat.max_eq_left (kb hik)]at gK;have:=kW qn k i o' qi (qn k o' hX qi) gK;grind
  rw[other nv];exact inv.copies k o' t dd hX qi uz zn r7
 have mk:∀(u:Value) (ob:Obj),m.made=true->r.res=.top->(execOp a.eval o).run P w=.ok (.value u) (w.alloc ob)->MadeAt c (w.alloc ob) s0 m w.heap.size u ->
   wpOp P l.toArray hu i (λa' w'=>s0<=w'.heap.size/\MInv E s0 e0 l R ms c (λj=>if j=i then true else X j) a' w') a w:=λu ob hmm hres pj hat=>by
  unfold wpOp;simp only[wb];rw[gh qhk];refine .inl (cL pj ⟨jh hs0 (sV w _),pd u,ps u,tm u (by rw[hres];exact .top _),inv.hs.alloc _,inv.ok.alloc inv.hs _,cp u (λt e=>by rw[e]at hmm;cases hmm),λk=>if k=i then w.heap.size else hN k,λk o' m' dd hX qi uz hmd zn=>?_,λk k' o1 o2 m1 m2 hX iC si pQ hm1 gF hmd1 hmd2 jV jG he=>?_⟩)
  .by_cases hk:k=i
   .grind
   simp only[gg hk]at hX|-;rw[RC u k o' dd hk qi zn];exact(pR k o' m' dd hX qi uz hmd zn).keep λb hb=>jO w _ b hb
  have blt:∀k o' m',k≠i->(if k=i then true else X k)=true->l[k]?=some o'->ms[k]?=some m'->m'.made=true->o'.dst≠none->hN k<w.heap.size:=λk o' m' hk hX qi uz hmd hn=>by rw[gg hk]at hX;obtain⟨dd,qA⟩:=Option.ne_none_iff_exists'.1 hn;exact((pR k o' m' dd hX qi uz hmd qA).lt hmd).1
  by_cases hk:k=i
  .grind
  by_cases qh:k'=i
  .grind
  grind
 have Aj:∀(u:Value),m.made=false->(execOp a.eval o).run P w=.ok (.value u) w->Rel c r.res u->(∀t,m=.copy t->u=a.tmps.getD t undef) ->
   wpOp P l.toArray hu i (λa' w'=>s0<=w'.heap.size/\MInv E s0 e0 l R ms c (λj=>if j=i then true else X j) a' w') a w:=λu hmf pj Q hcu=>by
  unfold wpOp;simp only[wb];rw[gh qhk];refine .inl (cL pj ⟨hs0,pd u,ps u,tm u Q,inv.hs,inv.ok,cp u hcu,hN,λk o' m' dd hX qi uz hmd zn=>?_,λk k' o1 o2 m1 m2 hX iC si pQ hm1 gF hmd1 hmd2 jV jG he=>?_⟩)
  .grind
  have hki:k≠i:=λe=>by subst e;rw[hm]at hm1;cases hm1;rw[hmf]at hmd1;cases hmd1
  have hki':k'≠i:=λe=>by subst e;rw[hm]at gF;cases gF;rw[hmf]at hmd2;cases hmd2
  simp only[gg hki,gg hki']at hX iC;grind
 split at p8
 .rename_i T x y yG;obtain⟨⟨rfl,_⟩,p8⟩:=p8;split at p8
  .rename_i el sz n hT hxv;obtain⟨hel,hsize,hpos,hbytes,hzt,nz,hn0,jV,rfl,rfl⟩:=p8;obtain⟨n,rfl⟩:=Int.eq_ofNat_of_zero_le hn0;have ss:=tL [x] (by rw[yG];simp[Op.operands]) nz x Z;rw[hxv]at ss;have hvx:a.eval x=.int .i64 n:=ss.val_inv;obtain⟨iT,dT,zT,_,wm,_,aV,_⟩:=rk hT Z;obtain⟨rfl,ie,r5,bV⟩:=cH aV;obtain⟨ie',de,ze,wt,_,gH,vd,hts,htz,zf,zd⟩:=rk (P:=P) (t:=el) rfl hel;rw[r5]at wt;cases wt;subst bV;have hb:ie.bytes<=2048:=c9;have hzall:∀v,v∈ze.cells.toList->jM v=nM (bD v)/\uB v=true:=λv hv=>by grind[qi8,F5]
   have td:(o8 P el).map nM=ze.cells.toList.map jM:=qfu;have jG:n<=68719476736:=J;have hbb:ie.bytes * n<=2048 * 68719476736:=qi4 hb jG;have pj:=run_make (P:=P) w T el ie ze wm r5 gH .i64 .i64 (n:Int) (n:Int) J (Int.le_refl _) (by have:(ie.bytes:Int) * (n:Int)=((ie.bytes * n:Nat):Int):=Z;omega) J
   simp only[qj5]at pj;have Ci:∀m,m<n * ie.size->(madeCells ze.cells (n * ie.size))[m]?=ze.cells[m % ie.size]?:=λm hm=>by unfold madeCells;grind[ky,qik]
   refine mk (.slice (some ⟨w.heap.size,0,none⟩) n n) (.cells (madeCells ze.cells (n * ie.size)) el) rfl rfl (by simp only[execOp,yG,hvx,iu,pj,iv,je]) ?_;simp only[Int.ofNat_eq_natCast,qj5];refine⟨rfl,hs0,jG,by rw[td];simp[zf],_,li w _,by simp[madeCells],?_⟩;intro i' j r x' G um;have th:i'<n:=W;rw[qj6,gh th]at G;cases G;rw[td,ja]at um;obtain⟨u,Q,rfl⟩:=iy.1 um;have hj:j<ie.size:=W;have ni:i' * ie.size+j<n * ie.size:=by have:(i'+1) * ie.size<=n * ie.size:=jl _ th;grind
   refine⟨u,?_,Hb (hzall u (gw Q)).2⟩;grind[qji,Nat.mul_add_mod,Nat.mod_eq_of_lt]
  grind
 .rename_i T yG;obtain⟨⟨hk,_⟩,rfl,rfl⟩:=p8;obtain⟨iT,dT,hI,O,U,h3,h4,h5,h6,h7,h8⟩:=rk (P:=P) (t:=T) rfl hk;have iH:(zeroValue T).run P w=.ok hI w:=qfy;refine mk (.pointer (some ⟨w.heap.size,0,none⟩)) (.cells hI.cells T) rfl rfl (by simp only[execOp,yG,Instr.alloc,newVar,newRow,iu,iH,Cv,je,iv]) ?_;exact⟨rfl,hs0,_,T,li w _,by rw[h6];exact GX c h8⟩
 .grind
 .rename_i t yG;split at p8
  .obtain⟨_,rfl,rfl⟩:=p8;have pj:(execOp a.eval o).run P w=.ok (.value (a.tmps.getD t undef)) w:=by simp only[execOp,yG,je];rfl
   exact Aj _ rfl pj (.top _) (λt' e=>by cases e;rfl)
  obtain⟨nz,nq,rfl,rfl⟩:=p8;have pq:=tL [.tmp t] (by rw[yG];simp[Op.operands]) nz;rw[hh0]at nq;obtain⟨u,pj,Q⟩:=Gx (o:=o) inv.hs (by rw[yG];simpa[Op.operands]using pq) (by rw[yG];exact nq);exact Aj u rfl pj W (λt' e=>by cases e)
 obtain⟨heff,nz,nq,rfl,rfl⟩:=p8;have pq:=tL _ (λx hx=>hx) nz;rw[hh0]at nq;obtain⟨u,pj,Q⟩:=Gx inv.hs pq nq;exact Aj u rfl pj W (λt' e=>by cases e)
def Ny{m:MK}(h:qQ P N o e (λm' r'=>m'=m/\r'=r))(hm:m.made=true):o.dst≠none:=by
 unfold qQ at h;obtain⟨hg,hd,h⟩:=h;split at h
 .grind
 .grind
 .grind
 .split at h
  .grind
  obtain⟨_,_,rfl,_⟩:=h;cases hm
 obtain⟨_,_,_,rfl,_⟩:=h;cases hm
def P8{m:Nat}(hm:m<=l.length)(t:TailOk m l)(hgd:∀(i:Nat) (o:Oper) (j:Nat) (zh:Bool),(l.take m)[i]?=some o->o.guard=some (j,zh)->j<i){hu:Exit->Act->World->Prop}(Inv:(Nat->Bool)->Act->World->Prop)
  (nA:∀X a w i o,iS (l.take m) X->Inv X a w->(l.take m)[i]?=some o->X i=false->(∀e,e∈o.after->Region.binds .any e=true->X e.on=true)->wpOp P (l.take m).toArray hu i (λa' w'=>Inv (λj=>if j=i then true else X j) a' w') a w)
  (hQ:∀X a w,(∀j,j<m->X j=true)->Inv X a w->wpList P l.toArray hu (l.drop m) a w) :
  ∀(qm:Nat) (h0:Array Bool),h0.size=l.length->(∀j,m<=j->h0.getD j false=false)->h0.toList.count false<=qm->iS l (λj=>h0.getD j false)->∀(a:Act) (w:World),Inv (λj=>h0.getD j false) a w->wpAny P .any l.toArray hu qm h0 a w:=by
 intro qm;have uF:∀(h0:Array Bool),(∀j,m<=j->h0.getD j false=false)->(∀j,j<m->h0.getD j false=true)->∀j,j<l.length->(h0.getD j false=true↔j<m):=λh0 u0 nz j _=>by grind
 have uX:∀(k:Nat) (h0:Array Bool),h0.size=l.length->(∀j,k<=j->h0.getD j false=false)->k<=l.length->l.length - k<=h0.toList.count false:=λk h0 hL hk hkl=>by
  have O:(h0.toList.drop k).count false=l.length - k:=by
   have U:(h0.toList.drop k).count false=(h0.toList.drop k).length:=List.count_eq_length.2 λb hb=>by obtain⟨j,hj⟩:=iw hb;rw[kj]at hj;have:=hk (k+j) J;simp only[jq]at this;grind
   grind
  grind[qj3]
 induction qm with
 |zero =>
  intro h0 hL u0 hc qn a w inv;by_cases nz:∀j,j<m->h0.getD j false=true
  .have:=uX m h0 hL u0 hm;exact Ca t 0 m h0 (gj _) hm hL (uF h0 u0 nz) J a w (hQ _ a w nz inv)
  exact Qcl
 |succ qm ih =>
  intro h0 hL u0 hc qn a w inv;by_cases nz:∀j,j<m->h0.getD j false=true
  .have:=uX m h0 hL u0 hm;exact Ca t (qm+1) m h0 (gj _) hm hL (uF h0 u0 nz) J a w (hQ _ a w nz inv)
  obtain⟨i0,g1,g2,g3⟩:=Aw nz;refine⟨λG=>?_,λi hi=>?_⟩
  .exact Qcm
  obtain⟨o,O,U,h3⟩:=B4 hi;have ni:i<h0.size:=W;have hLi:h0.getD i false=false:=W;have tD:i<m:=by
   rcases jz i m with h4|h4
   .exact h4
   exact Qcn
  have s7:(l.take m)[i]?=some o:=W;have Bh:iS (l.take m) λj=>h0.getD j false:=λj o' hj qi e he hb=>by exact Qco
  refine FL tD (λo' j zh qi hg=>?_) (wpOp_mono ?_ (nA _ a w i o Bh inv s7 hLi h3))
  .grind
  rintro a' w' inv';rw[uQ ni]at inv';refine ih _ W (λj hj=>?_) ?_ (FJ ni O h3 qn) a' w' inv'
  .exact Qcp
  grind[DY]
theorem RN{o:Oper}{m:MK}:∀{l:List Oper} {ms:List MK} {e:Env},ms.length=l.length->lL (l++[o]) (ms++[m]) e=mV (lL l ms e) o m
 | [],[],e,_=>rfl
 |_::_,[],_,h=>by cases h
 | [],_::_,_,h=>by cases h
 |o'::l,m'::ms,e,h=>by simp_all[mb,lL,RN]
def ZY{ms:List MK}(d:MReg P E l e0 R ms){c:Ctx}(nz:∀j,j<l.length->X j=true){a:Act}(inv:MInv E s0 e0 l R ms c X a w)
  (hE0:E.w.heap.size<=s0) (HR:∀i o b,e0.h[i]?=some o->ou c i o=some b->b<s0) (hD:∀b j v,c.D b j=some v->b<s0) (hcB:Gj l=true) :
  ∃c',Sim E.N c' (lL l ms (oj e0 R)) a w/\E.ok c' (lL l ms (oj e0 R)).h w:=by
 obtain⟨hN,pR,hB2⟩:=inv.made;have hq:∀r∈R,r.k=.quiet none:=λr G=>by
  obtain⟨k,hk⟩:=iw G;have ni:k<l.length:=by rw[<-d.len];exact(gn.1 hk).1
  obtain⟨_,r',_,U,h3⟩:=d.step k l[k] ba;rw[hk]at U;cases U;exact(Dm h3).1
 have hh0:(oj e0 R).h=e0.h:=by
  have:∀(R:List DR) (e:Env),(∀r∈R,r.k=.quiet none)->(oj e R).h=e.h:=λR=>by
   induction R with
   |nil=>intro e _;rfl
   |cons r R ih =>
    exact Qdh
  grind
 have key:∀k,k<=l.length->∃c',c.le c'/\c'.D=c.D/\Sim E.N c' (lL (l.take k) (ms.take k) (oj e0 R)) a w/\E.ok c' (lL (l.take k) (ms.take k) (oj e0 R)).h w /\
   ∀i o b,(lL (l.take k) (ms.take k) (oj e0 R)).h[i]?=some o->ou c' i o=some b->b<s0\/∃k' o' m',k'<k/\l[k']?=some o'/\ms[k']?=some m'/\m'.made=true/\o'.dst≠none/\b=hN k':=λk=>by
  induction k with
  |zero =>
   intro _;refine⟨c,.refl c,rfl,⟨inv.defers,inv.size,λt=>?_,?_⟩,?_,λi o b hi hb=>.inl ?_⟩
   .have:=inv.tmps t;rw[zU (h':=λ_=>true)]at this
    .grind[lL,Ck]
    intro j r G _;rw[im];exact nz j (by rw[<-d.len];exact(gn.1 G).1)
   .simp only[qi6,lL,hh0];exact inv.hs
   .simp only[qi6,lL,hh0];exact inv.ok
   grind[lL]
  |succ k ih =>
   intro hk;obtain⟨c',nh,hcD,s',k',y6⟩:=ih J;obtain⟨m,r,hm,G,r7⟩:=d.step k l[k] (ii J);have zg:k<ms.length:=W;have uz:ms[k]=m:=W;rw[jn J,jn zg,RN W,uz];obtain⟨F,hF⟩:=Qaj (lL (l.take k) (ms.take k) (oj e0 R))
   rw[hF]at s' k' y6|-;have hXk:=nz k J;have hlk:l[k]?=some l[k]:=ii J;have fr:m.made=true->∀(hd:l[k].dst≠none),s0<=hN k->(∀i o,F.h[i]?=some o->ou c' i o≠some (hN k))/\∀j,c'.D (hN k) j=none:=λhmd hd hs0=>by
    refine⟨λi o hi hb=>?_,λj=>?_⟩
    .grind
    rw[hcD];cases hv:c.D (hN k) j with
    |none=>rfl
    |some v=>have:=hD _ _ _ hv;omega
   cases m with
   |val=>exact⟨c',nh,hcD,s',k',λi o b hi hb=>(y6 i o b hi hb).imp id λ⟨k2,o2,m2,O,U⟩=>⟨k2,o2,m2,J,U⟩⟩
   |copy t =>
    have hasg:=Of r7;have hFh:(mV F l[k] (.copy t)).h=F.h:=by unfold mV;cases l[k].dst<;>rfl
    refine⟨c',nh,hcD,⟨s'.defers,s'.size,λt'=>?_,by rw[hFh];exact s'.hs⟩,by rw[hFh];exact k',λi o b hi hb=>?_⟩
    .cases qA:l[k].dst with
     |none =>
      simp only[mV,qA,Env.put];exact s'.tmps t'
     |some dd =>
      simp only[mV,qA,Env.put,oz];by_cases ht:dd=t'
      .subst ht;simp only[qjd,lu];rw[inv.copies k l[k] t dd hXk hlk hm qA (λj o' qi zn=>qr6 hcB hlk hasg qi zn)];exact s'.tmps t
      have:(dd == t')=false:=by simpa using ht
      simp only[this,lh];exact s'.tmps t'
    rw[hFh]at hi;exact(y6 i o b hi hb).imp id λ⟨k2,o2,m2,O,U⟩=>⟨k2,o2,m2,J,U⟩
   |arr el sz n zr =>
    have hd:=Ny r7 rfl;obtain⟨dd,qA⟩:=Option.ne_none_iff_exists'.1 hd;obtain⟨hv,hs0,hn,hz,nu,Bj,hsize,dF⟩:=pR k l[k] _ dd hXk hlk hm rfl qA;obtain⟨f1,f2⟩:=fr rfl hd hs0;obtain⟨g1,g2,g3⟩:=WB (E:=E) (e:=el) (sz:=sz) (n:=n) (b:=hN k) (nu:=nu) (S:=List.replicate n zr) s'.hs k' J Bj f1 f2 Z hn (λr G=>by rw[List.eq_of_mem_replicate G];exact hz) hsize W;refine⟨_,nh.trans g1,hcD,⟨s'.defers,s'.size,λt=>?_,?_⟩,?_,λi o b hi hb=>?_⟩
    .simp only[mV,qA,Env.put,oz];by_cases ht:dd=t
     .subst ht;simp only[qjd,lu];rw[hv];exact .own _ _ _ bi rfl
     have:(dd == t)=false:=by simpa using ht
     simp only[this,lh];exact(s'.tmps t).mono g1
    .grind[mV,Env.put]
    .grind[mV,Env.put]
    simp only[mV,qA,Env.put]at hi;rcases ve hi with O|⟨rfl,rfl⟩
    .rw[(s'.hs.obj i o O).blk g1]at hb;exact Qdi
    refine .inr ⟨k,l[k],_,J,hlk,hm,rfl,hd,?_⟩;simp[ou,Ctx.addSl,Value.ownBlock]at hb;omega
   |cell xs =>
    have hd:=Ny r7 rfl;obtain⟨dd,qA⟩:=Option.ne_none_iff_exists'.1 hd;obtain⟨hv,hs0,vs,T,Bj,qn⟩:=pR k l[k] _ dd hXk hlk hm rfl qA;obtain⟨f1,f2⟩:=fr rfl hd hs0;have nH:c'.le (c'.addBlk F.h.length (hN k)):=Ctx.addBlk_le (s'.hs.dom _ (gj _)).1;have rh:∀b',ou (c'.addBlk F.h.length (hN k)) F.h.length (.cells xs)=some b'->b'=hN k:=λb' nl=>by grind[ou,Ctx.addBlk,js]
    have g2:=s'.hs.push (b:=hN k) (o:=.cells xs) f1 f2 ⟨hN k,vs,T,dw,Bj,qn.1,λj x v hx hv=>⟨((qn.2 j x v hx hv).1.mono nh).mono nH,(qn.2 j x v hx hv).2⟩⟩ rh;have g3:=k'.push s'.hs (b:=hN k) (o:=.cells xs) J rh;refine⟨_,nh.trans nH,hcD,⟨s'.defers,s'.size,λt=>?_,?_⟩,?_,λi o b hi hb=>?_⟩
    .simp only[mV,qA,Env.put,oz];by_cases ht:dd=t
     .subst ht;simp only[qjd,lu];rw[hv];exact .ptr _ _ _ dw
     have:(dd == t)=false:=by simpa using ht
     simp only[this,lh];exact(s'.tmps t).mono nH
    .grind[mV,Env.put]
    .grind[mV,Env.put]
    simp only[mV,qA,Env.put]at hi;rcases ve hi with O|⟨rfl,rfl⟩
    .rw[(s'.hs.obj i o O).blk nH]at hb;exact Qdi
    exact .inr ⟨k,l[k],_,J,hlk,hm,rfl,hd,rh b hb⟩
 obtain⟨c',_,_,s',k',_⟩:=key l.length (gj _);rw[mj,show ms.take l.length=ms by rw[<-d.mlen,mj]]at s' k';grind
def W3{id:Nat}(m:Nat){hu:AExit->Env->Prop}(hm:P.follows .mixedOrders=true)(hB:(decide (m<=l.length)&&uS (l.take m)&&tH m l&&Gj (l.take m))=true)
  (h:E4 P E.N (l.take m) e [] λms e1=>iB P E.N hu ((l.take m).map (·.dst)) (l.drop m) (lL (l.take m) ms e1)):AWp P E (.region id l.toArray true) hu e:=λc a w s k=>by
 obtain⟨R,ms,oy,zg,nA,hQ⟩:=L4 h;simp only[ke]at hQ;simp only[gy,jm]at hB;obtain⟨⟨⟨hml2,hB⟩,hT⟩,hcB⟩:=hB;have d:MReg P E (l.take m) e R ms:=⟨Ct hB,oy,zg,nA⟩
 have hll:(l.take m).length=m:=W;refine wp_region_any hm ?_;have o9:HSim c e.h { w with drawn:=w.drawn+1 }:=s.hs.ext (λ_ _=>rfl) (.refl c) (λ_ _=>rfl) (λ_ _ _ h=>.inl h) s.hs.dom;have qh:E.ok c e.h { w with drawn:=w.drawn+1 }:=k.ext' s.hs (λ_ _=>rfl) (.refl c) (λ_=>rfl) rfl rfl rfl (gj _) (λ_ _ _ h=>.inl h);have cK:(λ_=>false)=λj=>(Array.replicate l.toArray.size false).getD j false:=by exact Qcq
 have hX0:∀t,bT (λ_=>false) t 0 R (oz e.t t)=oz e.t t:=λt=>CV (λj r _ h=>by cases h);refine P8 hml2 (D7 hT) (λi o j zh hi hg=>d.ok.guard i o j zh hi hg) (λX a w'=>w.heap.size<=w'.heap.size/\MInv E w.heap.size e (l.take m) R ms c X a w') (λX a w' i o qn inv hi xg yx=>XY d qn inv.1 inv.2 hi xg yx) (λX a w' nz inv=>?_) _ _ Z (λj _=>(congrFun cK j).symm) Z ?_ a _ ?_
 .obtain⟨c',s',k'⟩:=ZY d (λj hj=>nz j J) inv.2 (by have:=k.size;exact this) (λi o b hi hb=>(s.hs.obj i o hi).lt hb) (λb j v hv=>World.block_lt_of_cell? w ⟨b,j,none⟩ (s.hs.data b j v hv)) hcB;exact uE (l.drop m) (l.take m) _ Z hQ c' a w' s' k'
 .exact Qcr
 rw[<-cK];exact⟨gj _,s.defers,s.size,λt=>by rw[hX0];exact s.tmps t,o9,qh,λ_ _ _ _ h=>(Bool.noConfusion h),λ_=>0,⟨λ_ _ _ _ h=>(Bool.noConfusion h),λ_ _ _ _ _ _ h=>(Bool.noConfusion h)⟩⟩
end
attribute [go_sem] E4 qQ lL mV
end
end Go.Abs

namespace Go.Abs
section
variable {P:Program} {E:Ent}
end
end Go.Abs

namespace Go.Abs
section
variable {P:Program} {E:Ent}
def qmq{fn:Func}{n0:Nat}{R:AEnd->mz->Prop}{x':AExit}{e':Env}{c':Ctx}{ex:Exit}{a':Act}{w':World}(hn0:E.h.length<=n0)(hq:Af P fn.results.toList n0 R x' e')(hx:XR c' x' ex)
  (s:Sim E.N c' e' a' w') (k:E.ok c' e'.h w') :
  (∃v r Y c2,(ex=.ret\/ex=.normal)/\(results fn a'.tmps).run P w'=.ok v w'/\R (.ret r) Y/\Rel c2 r v/\HSim c2 Y w'/\E.ok c2 Y w') \/
  (∃u r Y c2,ex=.panic [⟨u,false,false⟩]/\R (.panic r) Y/\Rel c2 r u/\HSim c2 Y w'/\E.ok c2 Y w'):=by
 have fin:∀e'':Exit,(e''=.ret\/e''=.normal)->zA P fn.results.toList n0 R e'->∃v r Y c2,(e''=.ret\/e''=.normal)/\(results fn a'.tmps).run P w'=.ok v w'/\R (.ret r) Y/\Rel c2 r v/\HSim c2 Y w'/\E.ok c2 Y w':=by rintro e'' he ⟨nq,r',Y,O,U,h3,h4,h5,hR⟩;obtain⟨v,hv,G⟩:=Gd (P:=P) s fn nq;obtain⟨c2,g1,g2,g3⟩:=Cf s k G O U h3 J h5;exact⟨v,r',Y,c2,he,hv,hR,g3,g1,g2⟩
 cases x' with
 |normal=>cases ex<;>simp only[XR]at hx;exact .inl (fin _ (.inr rfl) hq)
 |exit i=>exact hq.elim
 |ret=>cases ex<;>simp only[XR]at hx;exact .inl (fin _ (.inl rfl) hq)
 |panic x =>
  cases ex with
  |panic ch =>
   cases ch with
   |nil=>simp[XR]at hx
   |cons p l =>
    cases l with
    |nil =>
     obtain⟨u,r,g⟩:=p;cases r<;>cases g<;>simp only[XR]at hx;obtain⟨v',Y,O,U,h3,h4,h5,hR⟩:=hq;obtain⟨c2,g1,g2,g3⟩:=Cf s k hx O U h3 J h5;exact .inr ⟨u,v',Y,c2,rfl,hR,g3,g1,g2⟩
    |cons=>simp[XR]at hx
  |_=>simp[XR]at hx
def P6{fn:Func}{code:Code}{e:Env}{a:Act}{c:Ctx}{w:World}(s:Sim E.N c e a w)(k:E.ok c e.h w){H:mz}{n0:Nat}(hn0:E.h.length<=n0)
  (body:AWp P E code (Af P fn.results.toList n0 λr Y=>r=.ret (.tuple [])/\Y=H) e) {c₀:Frame} {h2:FrameMode} {cs:List Frame} :
  code.wpS P (bodyPostS P fn c₀ cs λen u' w'=>(∃v,en=.returned v)/\u'=h2/\∃c',HSim c' H w'/\E.ok c' H w') a ({ c₀ with mode:=h2 }::cs) w:=by
 refine wpS_of_wp (wp_mono (body c a w s k) ?_);rintro ex a' w' ⟨x',e',c',hq,hx,o9,ok'⟩;rcases qmq hn0 hq hx o9 ok' with⟨v,r,Y,c2,he,hv,⟨_,rfl⟩,_,g1,g2⟩|⟨u,r,Y,c2,he,⟨L,_⟩,_⟩
 .rcases he with rfl|rfl
  .exact⟨o9.defers,h2,rfl,v,hv,⟨v,rfl⟩,rfl,c2,g1,g2⟩
  exact⟨o9.defers,h2,rfl,v,hv,⟨v,rfl⟩,rfl,c2,g1,g2⟩
 cases L
end
end Go.Abs
namespace Go.Abs
section
variable{o:AObj}{h O:mz}{f:FuncId}{p j t sz:Nat}{xs:List V}
theorem wh{n:Nat}{i:Nat}(Q:hUnder n h=true)(ho:o.under n=true):hUnder n (h.set i o)=true:=by grind[lY]
def Ov{n:Nat}{o':AObj}(hn:n<=h.length):hwk ((h.set n o).set (n+1) o') (h.take n):=by
 have e:((h.set n o).set (n+1) o')=h.take n++(((h.set n o).set (n+1) o').drop n):=by
  rw[show h.take n=((h.set n o).set (n+1) o').take n from ?_,me];apply kp;intro i;simp only[jo];split
  .grind
  rfl
 rw[e];exact hwk.app0 _
def ub(d:List Deferred)(a:Act):Act:={ a with defers:=a.defers++d }
def Qx{P:Program}{o:Oper}{d:List Deferred}{a:Act}{next Hp:Act->World->Prop}{hu Q':Exit->Act->World->Prop}{r:Result Next}(h:o.upon P a next hu r)
  (hn:∀a w,next a w->Hp (ub d a) w) (hq:∀x a w,hu x a w->Q' x (ub d a) w):o.upon P (ub d a) Hp Q' r:=by
 have put:∀(a:Act) (t:Option Tmp) (v:Value),(ub d a).put t v=ub d (a.put t v):=λa t v=>by cases t<;>rfl
 have lets:LetsOut hu->LetsOut Q':=λ⟨a,w,h⟩=>⟨ub d a,w,hq _ _ _ h⟩
 unfold Oper.upon at h|-;split at h
 .grind
 .grind
 .rename_i d0 w';have e:({ ub d a with defers:=d0::(ub d a).defers }:Act).put o.dst undef=ub d ({ a with defers:=d0::a.defers }.put o.dst undef):=by
   rw[<-put];rfl
  simp only[e];exact hn _ _ h
 .refine Calls.mono h λe w' he=>?_;cases e with
  |returned v=>simp only at he|-;rw[put];exact hn _ _ he
  |panicked c=>exact hq _ _ _ he
  |outgrown=>exact lets he
 .rename_i row args w';intro f cs;obtain⟨v,w2,hR,hs⟩:=h f cs;exact⟨v,w2,by show Hp _ _;rw[put];exact hn _ _ hR,hs⟩
 .grind
 omega
def DQ{P:Program}{om:Array Oper}{d:List Deferred}{hu Q':Exit->Act->World->Prop}(hq:∀x a w,hu x a w->Q' x (ub d a) w):∀{l:List Oper} {a:Act} {w:World},wpList P om hu l a w->wpList P om Q' l (ub d a) w
 | [],a,w,h=>hq _ _ _ h
 |o::l,a,w,h=>by
  have put:∀(a:Act) (t:Option Tmp) (v:Value),(ub d a).put t v=ub d (a.put t v):=λa t v=>by cases t<;>rfl
  unfold wpList at h|-;have e1:(ub d a).tmps=a.tmps:=rfl;rw[e1];split at h
  .rename_i hw;rw[gh hw];rcases h with h|⟨O,a',w',U⟩
   .exact .inl (Qx h (λa w hh=>DQ hq hh) hq)
   exact .inr ⟨O,ub d a',w',hq _ _ _ U⟩
  rename_i hw;rw[gg hw,put];exact DQ hq h
def Hz{P:Program}{args:List V}{R:AEnd->mz->Prop}(hw:∀E,Wk E ⟨[],h⟩ ⟨[],O⟩)(k:ACalls P f args O R):ACalls P f args h R:=by
 refine⟨k.1,λc w vs hs ha=>?_⟩;obtain⟨c1,s1,o1⟩:=hw ⟨0,c,h,w⟩ c ⟨#[],[]⟩ w ⟨rfl,rfl,λ_=>.top _,hs⟩ (.refl 0 hs);have ha1:RelL c1 args vs:=⟨ha.1,λj x v hx hv=>(ha.2 j x v hx hv).mono o1.ext⟩
 refine(k.2 c1 w vs s1.hs ha1).mono ?_;rintro e w' ⟨r,Y,c',hR,hE,o9,ok'⟩;exact⟨r,Y,c',hR,hE,o9,o1.trans ok'⟩
theorem EndR.mono{c c':Ctx}(hc:c.le c'){r:AEnd}{e:Ending}(h:EndR c r e):EndR c' r e:=by
 unfold EndR at h|-;split at h
 .exact h.mono hc
 .exact h.mono hc
 omega
def qko{P:Program}{args:List V}{U:mz}{r0:AEnd}(hw:∀E,Wk E ⟨[],O⟩ ⟨[],U⟩)(k:ACalls P f args h λr Y=>r=r0/\Y=O):ACalls P f args h λr Y=>r=r0/\Y=U:=by refine⟨k.1,λc w vs hs ha=>?_⟩;refine(k.2 c w vs hs ha).mono ?_;rintro e w' ⟨r,Y,c',⟨rfl,rfl⟩,hE,o9,ok'⟩;obtain⟨c1,s1,o1⟩:=hw ⟨0,c',Y,w'⟩ c' ⟨#[],[]⟩ w' ⟨rfl,rfl,λ_=>.top _,o9⟩ (.refl 0 o9);exact⟨_,_,c1,⟨rfl,rfl⟩,hE.mono o1.ext,s1.hs,ok'.trans o1⟩
def CW(E:Ent)(e:Env)(hp:e.h[p]?=some (.cells xs))(hj:xs[j]?=some .nils) :
  Wk E e ⟨e.t,e.h.set p (.cells (xs.set j (.own e.h.length 0)))++[AObj.uarr t sz []]⟩:=by
 have O:=ZD E e (t:=t) (sz:=sz) hp hj;have ni:p<e.h.length:=(gn.1 hp).1
 rwa [jw _ _ ni]at O
def pJ(E:Ent)(e:Env)(hp:e.h[p]?=some (.cells xs))(hj:xs[j]?=some .nils) :
  Wk E e ⟨e.t,e.h.set p (.cells (xs.set j (.own e.h.length 0)))++[AObj.arr t sz []]⟩:=by
 have O:=CW E e (t:=t) (sz:=sz) hp hj;have U:=tX E ⟨e.t,e.h.set p (.cells (xs.set j (.own e.h.length 0)))++[AObj.uarr t sz []]⟩ (i:=e.h.length) (t:=t) (sz:=sz) (S:=[]) Z;refine O.trans ?_;simpa using U
end
end Go.Abs

namespace Go.Abs
section
variable{P:Program}{f:FuncId}{rest:List V}{h:mz}
def If{R:AEnd->mz->Prop}(t sz:Nat)(k:ACalls P f (.own h.length 0::rest) (h++[.uarr t sz []]) R):ACalls P f (.nils::rest) h R:=by
 refine⟨k.1,λc w vs hs ha=>?_⟩;obtain⟨nh,s1,k1⟩:=ES hs (.refl 0 hs) t sz;have ha1:RelL (c.addSl h.length 0 (.slice none 0 0)) (.own h.length 0::rest) vs:=by
  refine⟨by simpa using ha.1,λj x v hx hv=>?_⟩;cases j with
  |zero =>
   have:=BQ (ha.2 0 .nils v rfl hv);simp only[List.getElem?_cons_zero,js]at hx;subst hx;rw[this];exact .own _ _ _ bi rfl
  |succ j =>
   simp only[qjk]at hx;exact(ha.2 (j+1) x v W hv).mono nh
 refine(k.2 _ w vs s1 ha1).mono ?_;rintro e w' ⟨r,Y,c',hR,hE,o9,ok'⟩;exact⟨r,Y,c',hR,hE,o9,k1.trans ok'⟩
def Vq{args:List V}{O U:mz}{x y:V}(hw:∀E:Ent,E.h=h->Wk E ⟨[(0,x)],O⟩ ⟨[(0,y)],U⟩)(k:ACalls P f args h λr Y=>r=.ret x/\Y=O):ACalls P f args h λr Y=>r=.ret y/\Y=U:=by
 refine⟨k.1,λc w vs hs ha=>?_⟩;refine(k.2 c w vs hs ha).mono ?_;rintro e w' ⟨r,Y,c',⟨rfl,rfl⟩,hE,o9,ok'⟩;cases e with
 |returned v =>
  have hE:Rel c' x v:=hE;obtain⟨c1,s1,o1⟩:=hw ⟨1,c,h,w⟩ rfl c' ⟨#[v],[]⟩ w' ⟨rfl,rfl,λi=>by
   cases i with
   |zero=>simpa[oz]using hE
   |succ i=>simp[oz];exact .top _,o9⟩ ⟨ok'.edom,ok'.ext,ok'.blk0,ok'.len,ok'.os,ok'.tape,ok'.output,ok'.size,ok'.frame,ok'.newobj,ok'.dold⟩
  have O:Rel c1 y v:=by simpa[oz]using s1.tmps 0
  exact⟨_,_,c1,⟨rfl,rfl⟩,O,s1.hs,⟨o1.edom,o1.ext,o1.blk0,o1.len,o1.os,o1.tape,o1.output,o1.size,o1.frame,o1.newobj,o1.dold⟩⟩
 |_=>exact hE.elim
def qpb{t sz:Nat}{S:List (List V)}{n:Nat}(hn:n=S.length)(k:ACalls P f (.own h.length 0::rest) (h++[.uarr t sz []]) λr Y=>r=.ret (.own h.length n)/\Y=h++[.uarr t sz S])(Q:hUnder h.length h=true) :
  ACalls P f (.nils::rest) h λr Y=>r=.ret (.slice S)/\Y=h:=by
 subst hn;refine Vq (x:=.own h.length S.length) (O:=h++[.uarr t sz S]) (λE hE=>?_) (If t sz k);refine(tX E _ (i:=h.length) (t:=t) (sz:=sz) (S:=S) Z).trans ?_;refine(AB E _).trans ?_;exact Wk.mk (by simp[hE]) Z J (by simp[go_sem,V.norm,wkT])
end
end Go.Abs

namespace Go.Abs
def qlf{E:Ent}{c:Ctx}{h:mz}{w:World}(s:HSim c h w)(k:E.ok c h w){i:Nat}{o o':AObj}(hi:h[i]?=some o)(hR:ObjR c w i o')(hb:∀b,ou c i o'=some b->ou c i o=some b)(hsh:∀j,o.shares j->o'.shares j) :
  HSim c (h.set i o') w/\E.ok c (h.set i o') w:=by
 have vn:∀j ob b',(h.set i o')[j]?=some ob->ou c j ob=some b'->∃o0,h[j]?=some o0/\ou c j o0=some b'/\∀m,o0.shares m->ob.shares m:=λj ob b' hj nl=>by grind
 refine⟨⟨s.data,λj hj=>s.dom j W,λj ob hj=>?_,λj j' ob o2 b' hj uq qd rh=>?_,λj ob b' m v hj qd hD=>?_⟩,⟨k.edom,k.ext,k.blk0,bu,k.os,k.tape,k.output,k.size,k.frame,λj ob b' hj qd=>?_,k.dold⟩⟩
 .rcases tk hj with⟨rfl,rfl⟩|⟨nv,O⟩
  .exact hR
  exact s.obj j ob O
 .obtain⟨o3,g1,cZ,_⟩:=vn j ob b' hj qd;obtain⟨o4,g2,g2',_⟩:=vn j' o2 b' uq rh;exact s.apart j j' o3 o4 b' g1 g2 cZ g2'
 .obtain⟨o3,g1,cZ,g3⟩:=vn j ob b' hj qd;exact g3 m (s.sep j o3 b' m v g1 cZ hD)
 obtain⟨o3,g1,cZ,_⟩:=vn j ob b' hj qd;exact k.newobj j o3 b' g1 cZ
def Uo(E:Ent)(e:Env){i t sz:Nat}{S:List (List V)}(hi:e.h[i]?=some (.oarr t sz S))(hd:∀r,r∈S->(qu e.h r).all V.isData=true):Wk E e ⟨e.t,e.h.set i (.uarr t sz (S.map (qu e.h)))⟩:=λc a w s k=>by
 obtain⟨v,vs,O,ho,hm,U,h3,h4,h5⟩:=s.hs.obj i _ hi;obtain⟨s1,k1⟩:=qlf s.hs k hi (o':=.uarr t sz (S.map (qu e.h))) ⟨v,vs,da,ho,by simpa using hm,by simpa using U,by simpa using h3,λr G=>by
   obtain⟨r0,hr0,rfl⟩:=ig.1 G;rw[pP,ka];exact h4 r0 hr0,λi' j r x G hx=>by
   rw[ja]at G;obtain⟨r0,hr0,rfl⟩:=iy.1 G;have hxm:=gw hx;rw[pP,ja]at hx;obtain⟨x0,vl,rfl⟩:=iy.1 hx;obtain⟨u,Q,pq,_⟩:=h5 i' j r0 x0 hr0 vl;exact⟨u,Q,DM (jk.1 (hd r0 (gw hr0)) _ hxm) (rQ s.hs pq)⟩⟩ (λb hb=>by simpa[ou]using hb) (λj hj=>hj.elim)
 exact⟨c,⟨s.defers,s.size,s.tmps,s1⟩,k1⟩
def NA(E:Ent)(e:Env){p j t sz:Nat}{xs:List V}(hp:e.h[p]?=some (.cells xs))(hj:xs[j]?=some .nils) :
  Wk E e ⟨e.t,e.h.set p (.cells (xs.set j (.own e.h.length 0)))++[AObj.oarr t sz []]⟩:=λc a w s k=>by
 obtain⟨nh,s1,k1⟩:=RX s.hs k t sz;have ni:p<e.h.length:=(gn.1 hp).1;obtain⟨s2,k2⟩:=GD s1 k1 (p:=p) (xs:=xs) (nD:=xs.set j (.own e.h.length 0)) W Z (λi x x' v hx um G=>by
  rcases tk um with⟨rfl,rfl⟩|⟨nv,O⟩
  .exact Qct
  rw[O]at hx;cases hx;exact G)
 rw[jw _ _ ni]at s2 k2;exact Qcu
end Go.Abs

namespace Go.Abs
open Go.Proofs Go.Shelf
section
variable {P:Program} {E:Ent}
structure InsPostK(w w':World)(v v':Value)(e:TypeId)(sz n:Nat)(us:List Value):Prop where
 one:v'.oneCell'=true
 own:w'.ownsRow 0 e sz v' n us
 os:w'.os=w.os
 tape:w'.tape=w.tape
 output:w'.output=w.output
 size:w.heap.size<=w'.heap.size
 two:(∃g,v.ownBlock=some g/\v'.ownBlock=some g/\∀k,k≠g->w'.heap[k]?=w.heap[k]?)\/(v'.ownBlock=some w.heap.size/\∀k,k<w.heap.size->w'.heap[k]?=w.heap[k]?)
def PS(P:Program)(f:FuncId)(e:TypeId)(sz:Nat):Prop:=∀(w:World) (v:Value) (n nk vb vc:Nat) (cs:List Value) (kv:Array Value) (tA:TypeId),w.ownsRow 0 e sz v n cs->(∀u∈cs,u.oneCell'=true)->nk<=n->n+1<=68719476736 ->
 w.heap[vb]?=some (.cells kv tA (0,0))->kv.size=sz->(∀u∈kv.toList,u.oneCell'=true)->(∀g,v.ownBlock=some g->vb≠g) ->
 Calls P f #[v,.int .i64 nk,.slice (some ⟨vb,0,none⟩) 1 vc] w λe' w'=>∃v',e'=.returned v'/\InsPostK w w' v v' e sz (n+1) (cs.take (nk * sz)++kv.toList++cs.drop (nk * sz))
def qle{c:Ctx}{S:List (List V)}{vs:List Value}{sz nk:Nat}{r0:List V}{us:List Value}(hp:nk<=S.length)(hl:vs.length=S.length * sz)(u3:∀r,r∈S->r.length=sz)(hr0:r0.length=sz)(eD:us.length=sz)
  (h:∀(i j:Nat) (r:List V) (x:V),S[i]?=some r->r[j]?=some x->∃u,vs[i * sz+j]?=some u/\Rel c x u/\u.oneCell'=true) (L:∀(j:Nat) (x:V),r0[j]?=some x->∃u,us[j]?=some u/\Rel c x u/\u.oneCell'=true) :
  ∀(i j:Nat) (r:List V) (x:V),(S.take nk++r0::S.drop nk)[i]?=some r->r[j]?=some x->∃u,(vs.take (nk * sz)++us++vs.drop (nk * sz))[i * sz+j]?=some u/\Rel c x u/\u.oneCell'=true:=by
 intro i j r x G hx;have hps:nk * sz<=S.length * sz:=jl _ hp;have hjs:∀r':List V,r'.length=sz->r'[j]?=some x->j<sz:=λr' O U=>by rw[<-O];exact(gn.1 U).1
 have htl:(vs.take (nk * sz)).length=nk * sz:=W;by_cases O:i<nk
 .rw[gu au,jo,gh O]at G;have hj:=hjs r (u3 r (gw G)) hx;have ni:(i+1) * sz<=nk * sz:=jl _ O;grind
 rw[gz au]at G;simp only[kc,lx hp]at G;by_cases U:i=nk
 .grind
 rw[show i - nk=(i - (nk+1))+1 by omega]at G;simp only[qjk,kj]at G;rw[show nk+(i - (nk+1))=i - 1 by omega]at G;have hj:=hjs r (u3 r (gw G)) hx;obtain⟨u,Q,hd⟩:=h (i - 1) j r x G hx;refine⟨u,?_,hd⟩;have e1:i * sz=(i - 1) * sz+sz:=by rw[<-Nat.succ_mul];congr 1;omega
 have e2:nk * sz<=(i - 1) * sz:=jl _ J;grind
def SK{c:Ctx}{e:Env}{a:Act}{w:World}(s:Sim E.N c e a w)(k:E.ok c e.h w){om:Array Oper}{rest:List Oper}{o1 o2:Oper}{hu:Exit->Act->World->Prop}{T el sz:Nat}{x xa xb f:Operand}{d1:Nat}{y:V}{py:FuncId}{ts:Array TypeId}
  (z:PS P py el sz) (g1:o1.guard=none) (g2:o2.guard=none) (hd1:o1.dst=some d1) (hlt1:d1<E.N) (pG:iJ E.N o2.dst) (hop1:o1.op=.buildSlice T 1 #[(0,x)]) (hop2:o2.op=.call { callee:=.value f,args:=#[xa,xb,.tmp d1],argTypes:=ts })
  (hT:nj P T=.slice el sz) (hel:nj P el≠.other) (p6:oh P el=sz) (hpos:0<sz) (fK:sz<=16777216) (hx:sn e true [x,xa,xb,f]) (hxk:e.getS x=y) (pg:y.cellsOk=true) (hyl:y.cells.length=sz)
  {i n:Nat} (hxa:e.getS xa=.own i n) {nk:Nat} (hxb:e.getS xb=.val (.int .i64 nk)) (nv:∀t,xa=.tmp t->t≠d1) (hneb:∀t,xb=.tmp t->t≠d1) (hf:f=.func py) (hEn:yZ P py)
  {S:List (List V)} (hi:e.h[i]?=some (.oarr el sz S)) (hn:S.length=n) (hpn:nk<=n) (oy:n+1<=68719476736)
  (aY:∀c' a' w',Sim E.N c' ((({ e with h:=e.h.set i (.oarr el sz (S.take nk++y.cells::S.drop nk)) }:Env).put o1.dst .top).put o2.dst (.own i (n+1))) a' w'->E.ok c' (e.h.set i (.oarr el sz (S.take nk++y.cells::S.drop nk))) w'->wpList P om hu rest a' w') :
  wpList P om hu (o1::o2::rest) a w:=by
 have pq:=yh s hx;have ss:=pq x Z;have AW:=pq xa Z;have hrxb:=pq xb Z;rw[hxk]at ss;rw[hxa]at AW;rw[hxb]at hrxb;have hvb:a.eval xb=.int .i64 nk:=hrxb.val_inv;obtain⟨tg,sq⟩:=ss.cells pg;have Du:=MR (P:=P) hT hel p6 hpos fK (v:=a.eval x) J w;obtain⟨c1,kR,s1,k1,hD1⟩:=EP s.hs k (a.eval x).cells el;refine nX (hr:=true) cj (λ_=>?_) (λh=>by cases h);refine cL (w':=w.alloc (.cells (a.eval x).cells el)) (v:=.slice (some ⟨w.heap.size,0,none⟩) 1 1) (by simp only[execOp,hop1,qjj,jd,kf,iu,Du,iv,je]) ?_;have s2:Sim E.N c1 (e.put o1.dst .top) (a.put o1.dst (.slice (some ⟨w.heap.size,0,none⟩) 1 1)) (w.alloc (.cells (a.eval x).cells el)) :=
  s.put kR s1 (λj hj=>by rw[hd1]at hj;cases hj;exact hlt1) (.top _)
 obtain⟨hv,vs,tp,u3,iA⟩:=Hv s1 hi hn (AW.mono kR);have tc:∀u,u∈vs->u.oneCell'=true:=λu Q=>by
  obtain⟨j,hj⟩:=iw Q;have ni:j<S.length * sz:=by have:=(gn.1 hj).1;rw[tp.1]at this;rw[hn];exact this
  have vT:j / sz<S.length:=Nat.div_lt_of_lt_mul W;have G:S[j / sz]?=some S[j / sz]:=Z;have hrl':=u3 _ (gw G);have hm:j % sz<sz:=qik _ hpos;obtain⟨u',gJ,_,O⟩:=iA (j / sz) (j % sz) _ (S[j / sz][j % sz]'J) G Z;grind[qji,Nat.div_add_mod]
 have honex:∀u,u∈(a.eval x).cells.toList->u.oneCell'=true:=λu Q=>by grind[iw]
 have hkeep:(w.alloc (.cells (a.eval x).cells el)).heap[w.heap.size]?=some (.cells (a.eval x).cells el (0,0)):=li _ _;have y6:∀g,(a.eval xa).ownBlock=some g->w.heap.size≠g:=λg hg e1=>by
  have tj:c.sl i n=some (a.eval xa):=by
   cases AW with
   |data h=>cases h
   |own _ _ _ h _=>exact h
  have hb:ou c i (.oarr el sz S)=some g:=cx;have:=(s.hs.obj i _ hi).lt hb;omega
 have lK:=z _ _ n nk w.heap.size 1 vs _ el tp tc hpn oy hkeep J honex y6;have heva:(a.put o1.dst (.slice (some ⟨w.heap.size,0,none⟩) 1 1)).eval xa=a.eval xa:=by
  rw[hd1];cases xa with
  |tmp t=>have:=nv t rfl;simp[Act.put,Act.eval,qim (Ne.symm this),jq]
  |_=>rfl
 have hevb:(a.put o1.dst (.slice (some ⟨w.heap.size,0,none⟩) 1 1)).eval xb=.int .i64 nk:=by
  rw[<-hvb,hd1];cases xb with
  |tmp t=>have:=hneb t rfl;simp[Act.put,Act.eval,qim (Ne.symm this),jq]
  |_=>rfl
 have bS:d1<a.tmps.size:=qhs;have hevd:(a.put o1.dst (.slice (some ⟨w.heap.size,0,none⟩) 1 1)).eval (.tmp d1)=.slice (some ⟨w.heap.size,0,none⟩) 1 1:=by rw[hd1];simp[Act.put,Act.eval,bS]
 refine nX (hr:=true) qhl (λ_=>?_) (λh=>by cases h);unfold Oper.wp;rw[Bc (us:=#[]) (vs:=#[]) hop2 (by rw[hf];rfl) hEn];simp only[qjq,qj4,qjj,jd,kf,heva,hevb,hevd];refine lK.mono ?_;rintro en w' ⟨v',rfl,iV⟩;have BC:(S.take nk++y.cells::S.drop nk).length=n+1:=au;obtain⟨c2,nH,s3,k3,qE⟩:=NM (E:=E) s1 k1 (qq:=S.take nk++y.cells::S.drop nk) hi W J J (λr G=>by
   rcases jj.1 G with G|G
   .grind
   rcases iq.1 G with rfl|G
   .exact hyl
   .exact u3 r (qjh G)) (qle J (by rw[tp.1,hn]) u3 hyl W iA (us:=(a.eval x).cells.toList) (λj hI hz=>by
   have ni:j<(a.eval x).cells.size:=W;obtain⟨h3,h4⟩:=sq j hI (a.eval x).cells[j] hz ba;exact⟨_,ba,h3.mono kR,h4⟩)) iV.one (by rw[BC];exact iV.own) iV.os iV.tape iV.output iV.size iV.two
 exact Qda
end
end Go.Abs

namespace Go.Abs
open Go.Proofs
section
variable {P:Program} {E:Ent}
def FP{c:Ctx}{h:mz}{w w':World}(hs:HSim c h w)(k:E.ok c h w){i e sz g cap:Nat}{S qq:List (List V)}{us:List Value}(hi:h[i]?=some (.uarr e sz S))(hv:c.sl i S.length=some (.slice (some ⟨g,0,none⟩) S.length cap))
  (hl:qq.length=S.length) (td:∀r,r∈qq->r.length=sz) (tp:w'.ownsRow 0 e sz (.slice (some ⟨g,0,none⟩) S.length cap) S.length us)
  (kS:∀(i' j:Nat) (r:List V) (x:V),qq[i']?=some r->r[j]?=some x->∃u,us[i' * sz+j]?=some u/\DRel c.D x u) (gX:w'.os=w.os) (ht:w'.tape=w.tape) (gO:w'.output=w.output) (p6:w.heap.size<=w'.heap.size)
  (vh:∀b,b≠g->b<w.heap.size->w'.heap[b]?=w.heap[b]?):HSim c (h.set i (.uarr e sz qq)) w'/\E.ok c (h.set i (.uarr e sz qq)) w':=by
 obtain⟨v0,vs,O,si,eW,U,h3,h4,h5⟩:=hs.obj i _ hi;rw[hv]at O;cases O;have y8:ou c i (.uarr e sz S)=some g:=du;have Bu:ou c i (.uarr e sz qq)=some g:=cx;have vn:∀j ob b',(h.set i (.uarr e sz qq))[j]?=some ob->ou c j ob=some b'->∃o0,h[j]?=some o0/\ou c j o0=some b':=λj ob b' hj nl=>by grind
 refine⟨⟨λb j v hD=>?_,λj hj=>hs.dom j W,λj ob hj=>?_,λj j' ob o2 b' hj uq qd rh=>?_,λj ob b' m v hj qd hD=>?_⟩,⟨k.edom,k.ext,k.blk0,bu,gX.trans k.os,ht.trans k.tape,gO.trans k.output,jh k.size p6,λb hb qz=>?_,λj ob b' hj qd=>?_,k.dold⟩⟩
 .have hb:b≠g:=λe2=>by
   subst e2;exact hs.sep i _ b j v hi y8 hD
  have s6:=hs.data b j v hD;rw[World.cell?_of_block (w:=w) (vh b hb (World.block_lt_of_cell? w ⟨b,j,none⟩ s6))];exact s6
 .rcases tk hj with⟨rfl,rfl⟩|⟨nv,h6⟩
  .exact⟨_,us,by rw[hl];exact hv,rfl,λm hm=>eW m J,by rw[hl];exact tp,by rw[hl];exact h3,td,kS⟩
  refine(hs.obj j ob h6).keep (.refl c) (λ_=>rfl) λb' nl=>vh b' (λe2=>nv ?_) ((hs.obj j ob h6).lt nl);subst e2;exact hs.apart j i ob _ b' h6 hi nl y8
 .exact Qcc
 .rcases tk hj with⟨rfl,rfl⟩|⟨nv,h6⟩
  .rw[Bu]at qd;have h9:(AObj.uarr e sz S).shares m:=hs.sep j (.uarr e sz S) b' m v hi W hD;exact h9
  exact Qce
 .have nv:b≠g:=λe2=>by
   subst e2;rcases k.newobj i _ b hi y8 with⟨i0,o0,h6,h7⟩|h6
   .grind
   omega
  rw[vh b nv (qiu hb k.size)];exact k.frame b hb qz
 exact Qcf
end
end Go.Abs

namespace Go.Abs
section
variable {P:Program} {E:Ent}
def UY{c:Ctx}{h:mz}{w:World}(hs:HSim c h w)(k:E.ok c h w){i e sz b cap:Nat}{S qq:List (List V)}{us:List Value}{nu:Array Value}(hi:h[i]?=some (.uarr e sz S))(hv:c.sl i S.length=some (.slice (some ⟨b,0,none⟩) S.length cap))
  (hl:qq.length=S.length) (td:∀r,r∈qq->r.length=sz) (eD:us.length=S.length * sz) (hg:w.heap[b]?=some (.cells nu e (0,0))) (uh:S.length<=cap) (r9:cap<=maxLen) (su:nu.size=cap * sz)
  (eW:∀m,S.length<m->c.sl i m=none) (oy:S.length<=68719476736) (kS:∀(i' j:Nat) (r:List V) (x:V),qq[i']?=some r->r[j]?=some x->∃u,us[i' * sz+j]?=some u/\DRel c.D x u) :
  HSim c (h.set i (.uarr e sz qq)) (w.setRow b (us++nu.toList.drop us.length).toArray)/\E.ok c (h.set i (.uarr e sz qq)) (w.setRow b (us++nu.toList.drop us.length).toArray):=by
 have hcs':S.length * sz<=nu.size:=qf6;have vh:∀g,g≠b->(w.setRow b (us++nu.toList.drop us.length).toArray).heap[g]?=w.heap[g]?:=λg hg=>qje w b g _ hg;have bS:(w.setRow b (us++nu.toList.drop us.length).toArray).heap.size=w.heap.size:=Z;have y8:ou c i (.uarr e sz S)=some b:=du;have Bu:ou c i (.uarr e sz qq)=some b:=cx;have vn:∀j ob b',(h.set i (.uarr e sz qq))[j]?=some ob->ou c j ob=some b'->∃o0,h[j]?=some o0/\ou c j o0=some b':=λj ob b' hj nl=>by grind
 have bF:ObjR c (w.setRow b (us++nu.toList.drop us.length).toArray) i (.uarr e sz qq):=by
  refine⟨.slice (some ⟨b,0,none⟩) S.length cap,us,by rw[hl];exact hv,rfl,λm hm=>eW m J,⟨by rw[hl];exact eD,.inr ⟨b,cap,_,by rw[hl],il _,qi1 w b nu _ e (0,0) hg,by rw[hl];exact uh,r9,?_,?_⟩⟩,by rw[hl];exact oy,td,kS⟩
  .grind
  grind
 refine⟨⟨λg j v hD=>?_,λj hj=>hs.dom j W,λj ob hj=>?_,λj j' ob o2 b' hj uq qd rh=>?_,λj ob b' m v hj qd hD=>?_⟩,⟨k.edom,k.ext,k.blk0,bu,k.os,k.tape,k.output,qht,λg pa qz=>?_,λj ob b' hj qd=>?_,k.dold⟩⟩
 .have pa:g≠b:=λe2=>by
   exact Qbz
  exact Qca
 .rcases tk hj with⟨rfl,rfl⟩|⟨nv,h6⟩
  .exact bF
  exact Qcb
 .exact Qcc
 .rcases tk hj with⟨rfl,rfl⟩|⟨nv,h6⟩
  .exact Qcd
  exact Qce
 .have nv:g≠b:=λe2=>by
   subst e2;rcases k.newobj i _ g hi y8 with⟨i0,o0,h6,h7⟩|h6
   .grind
   omega
  rw[vh g nv];exact k.frame g pa qz
 exact Qcf
def Vd{c:Ctx}{e:Env}{a:Act}{w:World}(s:Sim E.N c e a w)(k:E.ok c e.h w){om:Array Oper}{rest:List Oper}{o1:Oper}{hu:Exit->Act->World->Prop}{T T' el:TypeId}{sz i n d1:Nat}{x y:Operand}{S vH:List (List V)}
  (g1:o1.guard=none) (hd1:o1.dst=some d1) (hlt1:d1<E.N) (hop1:o1.op=.call { callee:=.builtin .copy,args:=#[x,y],argTypes:=#[T,T'] })
  (hT:nj P T=.slice el sz) (hel:nj P el≠.other) (hsize:oh P el=sz) (hpos:0<sz) (nz:sn e true [x,y]) (hx:e.getS x=.own i n) (hy:e.getS y=.slice vH) (hi:e.h[i]?=some (.uarr el sz S)) (hn:S.length=n) (jG:vH.length=n) (td:∀r,r∈vH->r.length=sz)
  (aY:∀a' w',Sim E.N c (({ e with h:=e.h.set i (.uarr el sz vH) }:Env).put o1.dst (.val (.int .i64 n))) a' w'->E.ok c (e.h.set i (.uarr el sz vH)) w'->wpList P om hu rest a' w') :
  wpList P om hu (o1::rest) a w:=by
 obtain⟨iT,dT,zT,_,wm,_,aV,_⟩:=rk hT Z;obtain⟨rfl,ie,r5,bV⟩:=cH aV;have ss:=yh s nz x Z;have hry:=yh s nz y Z;rw[hx]at ss;rw[hy]at hry;have hd:=Rel.slice_inv hry;obtain⟨ad,cap2,hye,pI⟩:=D5 s.hs td hpos hd;obtain⟨v,vs,O,si,eW,U,h3,h4,h5⟩:=s.hs.obj i _ hi;have hxv:a.eval x=v:=by
  cases ss with
  |data h=>cases h
  |own i n v' Y ho =>
   rw[hn]at O;rw[O]at Y;cases Y;rfl
 have hlu:(Builtin.lenOf (a.eval y)).run P w=.ok vH.length w:=by rw[hye];simp[Builtin.lenOf]
 by_cases L:n=0
 .have hr2:vH=[]:=ko J;have kH:S=[]:=ko J;subst hr2;subst kH;subst L;have pj:∀ty,(Builtin.copy_ #[T,T'] ty #[a.eval x,a.eval y]).run P w=.ok (goInt 0) w:=λty=>by
   rw[hxv,hye];rcases U.2 with⟨rfl,_⟩|⟨g,cp,nu,rfl,_,hg,uh,r9,su,eS⟩
   .cases ad<;>simp[Builtin.copy_,kx wm,Builtin.lenOf,Builtin.firstCells,sizeOf,typeInfo,r5,loadCells,loadCellsFrom]
   cases ad<;>simp[Builtin.copy_,kx wm,Builtin.lenOf,Builtin.firstCells,sizeOf,typeInfo,r5,loadCells,loadCellsFrom,storeCells]
  refine Proofs.wpList_copy_runI w g1 x y T T' hop1 _ _ rfl rfl (pj _) ?_;have eX:e.h.set i (.uarr el sz [])=e.h:=fM hi;rw[eX]at aY;refine aY _ _ ?_ k;exact s.put (.refl c) s.hs (λj hj=>by rw[hd1]at hj;cases hj;exact hlt1) (.val _)
 have nv:vH≠[]:=λe2=>by rw[e2]at jG;simp at jG;omega
 rcases pI with e2|⟨b2,off2,rfl,us,eD,s6,tc,kS⟩
 .grind
 rcases U.2 with⟨rfl,e3⟩|⟨g,cp,nu,rfl,_,hg,uh,r9,su,eS⟩
 .omega
 have hcs':S.length * sz<=nu.size:=qf6;have hul2:us.length=S.length * sz:=W;have r7:=qjp P g 0 el us 0 nu w hg J tc;simp only[jt,im,qi6,ke]at r7;have hfc:=run_firstCells_some (P:=P) w ie.size n ⟨b2,off2,none⟩ vH.length cap2 us W (λj u Q=>by rw[cM];exact s6 j u Q);rw[jG]at hfc;have pj:∀ty,(Builtin.copy_ #[T,T'] ty #[a.eval x,a.eval y]).run P w=.ok (goInt n) (w.setRow g (us++nu.toList.drop us.length).toArray):=λty=>by rw[hxv,hye];simp[Builtin.copy_,kx wm,Builtin.lenOf,sizeOf,typeInfo,r5,jG,hn,hfc,r7]
 refine Proofs.wpList_copy_runI w g1 x y T T' hop1 _ _ rfl rfl (pj _) ?_;obtain⟨s1,k1⟩:=UY (E:=E) s.hs k (qq:=vH) (us:=us) hi O J td hul2 hg uh r9 su eW h3 kS;refine aY _ _ ?_ k1;exact s.put (.refl c) s1 (λj hj=>by rw[hd1]at hj;cases hj;exact hlt1) (.val _)
end
end Go.Abs
