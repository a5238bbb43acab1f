/- Part 13 of a proof. -/
import Derived.Scope
import Derived.Shelf.Spec.SlicesInsertGrow
import Derived.Test.YtolejdhnnchfpaaGreatDoorQ12
set_option linter.all false
namespace Go.Abs
theorem jbi{P:Program}{T:TypeId}{s x:AV}{h:g9}{K:AV->g9->Prop}(hK:qsh P T s x h K):∃r h2,qsh P T s x h (λr1 h1=>True/\r1=r/\h1=h2)/\K r h2:=by
 unfold qsh at hK;split at hK
 rotate_left
 .grind
 rename_i h1 h2;obtain⟨g1,g2,g3,g4,g5,hK⟩:=hK;split at hK
 .grind[qsh]
 .grind[qsh]
 .grind[qsh]
 .grind
theorem jbu{P:Program}{T:TypeId}{s x:AV}{h:g9}{K:AV->g9->Prop}(hK:qvi P T s x h K):∃r h2,qvi P T s x h (λr1 h1=>True/\r1=r/\h1=h2)/\K r h2:=by
 unfold qvi at hK|-;split at hK
 .grind
 .exact jbi hK
section
variable {P:Program} {E:Ent}
def xjz(P:Program)(N:Nat)(Q:AExit->Env->Prop)(tl:List Oper)(ds:List (Option Tmp))(l:List Oper)(e:Env)(iw:List DR)(pd:g9->Prop):Prop :=
 match l with
 | []=>False
 |o::l =>
  match o.op with
  | .call { callee:=.builtin .append,args,argTypes } =>
   o.guard=none/\zj N o.dst/\iw.all DR.isQ=true/\me e true args.toList/\match args.toList,argTypes.toList with
   | [x,y],[T,T']=>T'=T/\qvi P T (e.getS x) (e.getS y) e.h
     (λr h2=>pd h2/\qu9 P N (ds++[o.dst]) l ((⟨o.dst,r,.quiet none⟩:DR).next ⟨e.t,h2⟩) (iw++[⟨o.dst,r,.quiet none⟩]) λR e1=>R.all DR.isQ=true/\qks P N Q (ds++o.dst::l.map (·.dst)) tl ⟨e1.t,h2⟩)
   |_,_=>False
  |_=>False
theorem qer{id:Nat}(m jc:Nat)(u:List Nat){l:List Oper}{Q:AExit->Env->Prop}{e:Env}(hm:P.follows .mixedOrders=true)(hB:xdw m jc u l=true)
  (h:qxj P E.N u (xjz P E.N Q (l.drop m)) jc 0 [] (l.take m) e [] λ_=>True):AWp P E (.region id l.toArray true) Q e:=by
 simp only[xdw,cw,decide_eq_true_eq]at hB;obtain⟨⟨⟨⟨se,hjm⟩,hdB⟩,hT⟩,hO⟩:=hB;have kp:=qx3 hdB;obtain⟨R1,pd,hR1,hn,sj,hK,hp⟩:=xj8 h;simp only[ff]at sj hK hp;have jm:(l.take m).length=m:=az;have hd:(l.take m).drop jc=(l.take m)[jc]'aa::(l.take m).drop (jc+1):=qi5 aa;generalize hoc:(l.take m)[jc]'aa=oc at hd;have hoc':(l.take m)[jc]?=some oc:=af;rw[hd]at hK;simp only[xjz]at hK;split at hK
 rotate_left
 .grind
 rename_i args ats lf;obtain⟨hg,ww,hQ1,iz,hK⟩:=hK;have hq1:=xfn.1 hQ1;split at hK
 rotate_left
 .grind
 rename_i x y T T' hx hT';obtain⟨hTT,hK⟩:=hK;obtain⟨r,h2,hc,hKA'⟩:=jbu hK;have hKA:=λ(_:True)=>hKA';have y8:∀k,k<m->k≠jc->(k<jc/\(sh (Region.before (l.take m).toArray) k jc=true\/k∈u))\/(jc<k/\sh (Region.before (l.take m).toArray) jc k=true):=λk hk it=>by grind
 have vn:oc.op.operands.toList=args.toList:=by
  rw[lf];simp[Op.operands,Call.operands]
 -- the results behind the call
 have hR2:∃R2:List DR,R2.length=((l.take m).drop (jc+1)).length/\(∀r',r'∈R2->∃rd,r'.k=.quiet rd)/\(∀(j:Nat) (r':DR),R2[j]?=some r'->∃o,((l.take m).drop (jc+1))[j]?=some o/\r'.dst=o.dst) /\
   (True->pd h2/\(∀(j:Nat) (o:Oper),((l.take m).drop (jc+1))[j]?=some o->ux P E.N (((l.take m).take jc).map (·.dst)++[oc.dst]++(((l.take m).drop (jc+1)).take j).map (·.dst)) o (jb ((⟨oc.dst,r,.quiet none⟩:DR).next ⟨(jb e R1).t,h2⟩) (R2.take j)) (λr'=>R2[j]?=some r')) /\
    qks P E.N Q ((l.take m).map (·.dst)) (l.drop m) ⟨(jb ((⟨oc.dst,r,.quiet none⟩:DR).next ⟨(jb e R1).t,h2⟩) R2).t,h2⟩):=by
  by_cases hk:True
  .obtain⟨h3,h4⟩:=hKA hk;obtain⟨R2,g1,g2,g3⟩:=qvt (qyk h4);obtain⟨g4,g5⟩:=g3;rw[List.all_append,List.all_append,cw,cw]at g4;refine⟨R2,g1,xfn.1 g4.2,λj r' hj=>?_,λ_=>⟨h3,g2,?_⟩⟩
   .have il:j<((l.take m).drop (jc+1)).length:=by rw[<-g1];exact(cm.1 hj).1
    obtain⟨_,r'',k1,k2,_⟩:=qwl (g2 j _ (cu il));rw[hj]at k2;cases k2;exact⟨_,cu il,k1⟩
   .grind[gn]
  .grind
 obtain⟨R2,hl2,hq2,hd2,qvy⟩:=hR2;generalize hrc:(⟨oc.dst,r,.quiet none⟩:DR)=rc at qvy;have qwt:∀k,k<jc->(R1++rc::R2)[k]?=R1[k]?:=λk hk=>co aa;have hgetc:(R1++rc::R2)[jc]?=some rc:=af;have qxm:∀k,jc<k->(R1++rc::R2)[k]?=R2[k - (jc+1)]?:=λk hk=>by
  rw[cx aa,hR1,show k - jc=(k - (jc+1))+1 by omega,qi6]
 have qvc:∀k,k<=jc->(R1++rc::R2).take k=R1.take k:=λk hk=>by rw[qkb aa]
 have xf1:∀k,jc<k->(R1++rc::R2).take k=R1++rc::R2.take (k - (jc+1)):=λk hk=>by
  rw[List.take_append,fw aa,hR1,show k - jc=(k - (jc+1))+1 by omega,qi9]
 have hqR:∀r',r'∈R1++rc::R2->∃rd,r'.k=.quiet rd:=λr' hr=>by
  rcases dw.1 hr with hr|hr
  .simp_all
  .rcases c0.1 hr with rfl|hr
   .grind
   .simp_all
 have xbi:∀k,jc<k->((l.take m).drop (jc+1))[k - (jc+1)]?=(l.take m)[k]?:=λk hk=>by
  rw[ew,show jc+1+(k - (jc+1))=k by omega]
 have dW:DRegW (l.take m) (R1++rc::R2):=by
  refine⟨kp,by simp[hR1,hl2];omega,λ{k r'} hr=>?_,λk s r' r'' i off cs _ _ hs hk=>?_⟩
  .have il:k<m:=by have:=(cm.1 hr).1;simp[hR1,hl2]at this;omega
   obtain⟨rd,hk⟩:=hqR r' (cv hr);have kf:(∃i off cs,r'.k=.store i off cs)->∀o:Oper,qrp o.op=true:=af;rcases qjq k jc with h1|h1|h1
   .rw[qwt k h1]at hr;have qu0:k<(l.take m).length:=aa;obtain⟨_,r'',k1,k2,_⟩:=qwl (sj k _ h1 (cu qu0));rw[hr]at k2;cases k2;exact⟨_,cu qu0,k1,λh=>kf h _⟩
   .grind
   .rw[qxm k h1]at hr;obtain⟨o,k1,k2⟩:=hd2 _ _ hr;rw[xbi k h1]at k1;exact⟨o,k1,k2,λh=>kf h _⟩
  .obtain⟨rd,h1⟩:=hqR r'' (cv hs);rw[h1]at hk;cases hk
 have d:DRegK P E (l.take m) e (R1++rc::R2) jc h2 True Q:=by
  refine⟨dW,aa,hqR,λk o ho it kf=>?_,λhk k o ho it kf=>?_,λo ho=>?_⟩
  .have il:k<m:=by have:=(cm.1 ho).1;omega
   rcases y8 k il it with⟨h1,_⟩|⟨_,h1⟩
   .rw[qvc k aa,qwt k h1];exact sj k o h1 ho
   .grind
  .have il:k<m:=by have:=(cm.1 ho).1;omega
   obtain⟨g1,g2,_⟩:=qvy hk;rcases y8 k il it with⟨h1,h3|h3⟩|⟨h1,_⟩
   .grind
   .have:=(hp h2 g1).2 k o h1 (by rwa [cz]) ho;rw[qvc k aa,qwt k h1,(qcx (R:=R1.take k) (λr' hr=>hq1 r' af) e h2).1];exact this
   .have:=g2 (k - (jc+1)) o af;have e1:((l.take m).take jc).map (·.dst)++[oc.dst]++(((l.take m).drop (jc+1)).take (k - (jc+1))).map (·.dst)=((l.take m).take k).map (·.dst):=by
     rw[show(l.take m).take k=(l.take m).take (jc+(1+(k - (jc+1))))by congr 1;omega,List.take_add,hd,eg,Nat.add_comm 1,qi9];simp
    rw[e1]at this;rw[xf1 k h1,qxm k h1];have e2:jb ⟨e.t,h2⟩ (R1++rc::R2.take (k - (jc+1)))=jb (rc.next ⟨(jb e R1).t,h2⟩) (R2.take (k - (jc+1))):=by
     have:∀(A B:List DR) (x:Env),jb x (A++B)=jb (jb x A) B:=by
      intro A
      induction A with
      |nil=>intro B x;rfl
      |cons a A ih=>intro B x;exact ih B _
     rw[this,(qcx (R:=R1) (λr' hr=>hq1 r' aa) e h2).1];rfl
    rw[e2];exact this
  .rw[hoc']at ho;cases ho;refine⟨r,by rw[hg];rfl,ww,by rw[hgetc,<-hrc,hg];rfl,?_⟩;rw[qvc jc (cn _),fw aa];show qy P (qmg (jb e R1) oc) oc.op _ _;have hh:=(qcx (R:=R1) (λr' hr=>hq1 r' aa) e e.h).2;have nl:∀z,z∈args.toList->(qmg (jb e R1) oc).getS z=(jb e R1).getS z:=λz hz=>by
    unfold Env.getS;rw[xi5 af]
   have xem:=xg4 (o:=oc) (λz hz=>by rw[vn];exact hz) iz;rw[lf];simp only[qy,hx,hT'];rw[hx]at xem nl;refine⟨xem,hTT,?_⟩;rw[nl x ac,nl y ac];exact hc
 refine xql m jc hm se hT d λhk=>?_;obtain⟨_,_,g3⟩:=qvy hk;have:∀(A B:List DR) (x:Env),jb x (A++B)=jb (jb x A) B:=by
  intro A
  induction A with
  |nil=>intro B x;rfl
  |cons a A ih=>intro B x;exact ih B _
 have e3:(jb e (R1++rc::R2)).t=(jb (rc.next ⟨(jb e R1).t,h2⟩) R2).t:=by
  rw[this];show(jb (rc.next (jb e R1)) R2).t=_;have q:=xjp (r:=rc) af (jb e R1) h2;rw[q.1,(qcx hq2 (rc.next (jb e R1)) h2).1]
 rw[e3];exact g3
end
attribute [go_sem] xjz
section
variable {P:Program} {E:Ent} {Q:AExit->Env->Prop} {e:Env}
theorem jeh{b:Code}(h:AWp P E b Q e):AWp P E (.scope b) Q e:=λc a w s o=>by
 refine wp_scope_straight (wp_mono (h c a w s o) ?_);rintro ex a' w' ⟨x',e',c',hq,hx,jg,ok'⟩;cases ex with
 |goto l=>cases x'<;>simp only[XR]at hx
 |_=>exact⟨x',e',c',hq,hx,jg,ok'⟩
theorem xvc{l:Nat}(h:Q .normal e):AWp P E (.label l) Q e:=λc a w s o=>wp_label ⟨.normal,e,c,h,trivial,s,o⟩
end
def qyj:AV->Bool
 | .val _=>true
 | .tuple xs=>xs.all λ| .val _=>true|_=>false
 | .agg xs=>xs.all λ| .val _=>true|_=>false
 |_=>false
theorem xgx{c c':Ctx}{x:AV}{v:Value}(hf:qyj x=true)(h:Rel c x v):Rel c' x v:=by
 cases x with
 |val u =>
  have:v=u:=h.val_inv;subst this;exact .val _ (qrj h)
 |tuple xs =>
  cases h with
  |data h=>cases h
  |tuple _ vs hl h =>
   refine .tuple xs vs hl λj x v hx hv=>?_;have h1:=h j x v hx hv;have h2:=dr.1 hf x (cv hx);cases x with
   |val u =>
    have:v=u:=h1.val_inv;subst this;exact .val _ (qrj h1)
   |_=>cases h2
 |agg xs =>
  cases h with
  |data h=>cases h
  |agg _ vs hl ho h =>
   refine .agg xs vs hl ho λj x v hx hv=>?_;have h1:=h j x v hx hv;have h2:=dr.1 hf x (cv hx);cases x with
   |val u =>
    have:v=u:=h1.val_inv;subst this;exact .val _ (qrj h1)
   |_=>cases h2
 |_=>simp[qyj]at hf
def qos(h:g9):AV->AV
 | .nils=>.slice []
 | .slice r=>.slice r
 | .val v=>.val v
 | .own i n=>match h[i]? with
  |some (.arr _ _ rows)=>if rows.length=n then .slice rows else .top
  |some (.uarr _ _ rows)=>if rows.length=n then .slice rows else .top
  |_=>.top
 |_=>.top
section
variable {P:Program} {E:Ent}
def qn5(w:World):Ctx:=⟨λb j=>w.cell? ⟨b,j,none⟩,λ_=>none,λ_ _=>none⟩
theorem xpa(w:World):HSim (qn5 w) [] w :=
 ⟨λ_ _ _ h=>h,λ_ _=>⟨rfl,λ_=>rfl⟩,λi o hi=>by simp at hi,λi j o o' b hi=>by simp at hi,λi o b j v hi=>by simp at hi⟩
theorem xf6{w:World}{c:Ctx}{e sz:Nat}{rows:List (List AV)}{v:Value}{vs:List Value}(hD:∀b j v,c.D b j=some v->w.cell? ⟨b,j,none⟩=some v)(h2:w.ownsRow 0 e sz v rows.length vs)(h3:rows.length<=68719476736)(h4:∀r,r∈rows->r.length=sz)
  (h5:∀(i' j:Nat) (r:List AV) (x:AV),rows[i']?=some r->r[j]?=some x->∃u,vs[i' * sz+j]?=some u/\DRel c.D x u):DRel (qn5 w).D (.slice rows) v:=by
 rcases h2.2 with⟨rfl,hn⟩|⟨g,cap,cur,rfl,hg,hh,ng,lw,md,xy⟩
 .have:rows=[]:=fg hn;subst this;exact .nil
 .have mb:∀(i' j:Nat) (r:List AV) (x:AV),rows[i']?=some r->r[j]?=some x->∃u,vs[i' * sz+j]?=some u/\DRel c.D x u/\(qn5 w).D g (0+i' * sz+j)=some u:=by
   intro i' j r x hr hx;obtain⟨u,hu,hd⟩:=h5 i' j r x hr hx;refine⟨u,hu,hd,?_⟩;have:=h2.cells (g:=g) rfl _ u hu;rw[vg,cz]at this;rw[cz];exact this
  exact .slice rows g 0 cap sz (λi' j=>(vs[i' * sz+j]?).getD undef) h4 h3 ng (λi' j r x hr hx=>by
   obtain⟨u,hu,hd,o7⟩:=mb i' j r x hr hx;rw[hu];exact o7) λi' j r x hr hx=>by
   obtain⟨u,hu,hd,o7⟩:=mb i' j r x hr hx;rw[hu];exact hd.mono hD
theorem xkb{c:Ctx}{h:g9}{w:World}(s:HSim c h w){x:AV}{v:Value}(hr:Rel c x v):Rel (qn5 w) (qos h x) v:=by
 have hD:∀b j v,c.D b j=some v->(qn5 w).D b j=some v:=s.data;cases x with
 |nils =>
  cases hr with
  |data h=>cases h
  |nils=>exact .data .nil
 |slice r=>exact .data ((Rel.slice_inv hr).mono hD)
 |val u =>
  have:v=u:=hr.val_inv;subst this;exact .val _ (qrj hr)
 |own i n =>
  cases hr with
  |data h=>cases h
  |own _ _ _ hv ho =>
   simp only[qos];split
   .rename_i e sz rows hi;split
    .rename_i hn;subst hn;obtain⟨v',vs,h1,_,_,h2,h3,h4,h5,_⟩:=s.obj i _ hi;rw[hv]at h1;cases h1;exact .data (xf6 s.data h2 h3 h4 h5)
    .exact .top _
   .rename_i e sz rows hi;split
    .rename_i hn;subst hn;obtain⟨v',vs,h1,_,_,h2,h3,h4,h5⟩:=s.obj i _ hi;rw[hv]at h1;cases h1;exact .data (xf6 s.data h2 h3 h4 h5)
    .exact .top _
   .exact .top _
 |_=>exact .top _
theorem jii{c:Ctx}{e:Env}{a:Act}{w:World}(s:Sim E.N c e a w)(k:E.ok c e.h w){o:Oper}{f:Operand}{args:Array Operand}{ts:Array TypeId}(ho:o.op=.call { callee:=.value f,args:=args,argTypes:=ts })
  (iz:me e true (f::args.toList)) {fid:FuncId} (hf:e.getS f=.fn (.func fid) [] []) {x:AV} (hP:APure P fid (args.toList.map λy=>qos e.h (e.getS y)) x) (hx:qyj x=true) {next:Act->World->Prop} {Q:Exit->Act->World->Prop}
  (wd:∀w' u,HSim c e.h w'->E.ok c e.h w'->Rel c x u->next (a.put o.dst u) w'):o.wp P a w next Q:=by
 have jr:=rp s iz;have tq:=jr f ac;rw[hf]at tq;have hev:a.eval f=.func (.func fid) #[] #[]:=by
  generalize a.eval f=z at tq;cases tq with
  |data h=>cases h
  |fn f ys xs us vs po hl h' h =>
   have h1:us = #[]:=qkc po;have h2:vs = #[]:=qkc hl;rw[h1,h2]
 have qqg:RelL (qn5 w) (args.toList.map λy=>qos e.h (e.getS y)) (args.map a.eval):=by
  refine⟨ac,λj y v hy hv=>?_⟩;simp only[di,db]at hy;obtain⟨z,hz,rfl⟩:=hy;simp only[fy,db]at hv;obtain⟨z',hz',rfl⟩:=hv;have:z'=z:=af;subst this;exact xkb s.hs (jr z' af)
 have hA:=hP [];unfold Oper.wp;rw[qws ho hev hA.1];simp only[qjz,qkd];refine(hA.2 (qn5 w) w _ (xpa w) qqg).mono ?_;rintro en w' ⟨r,h',c',⟨rfl,rfl⟩,hE,jg,kb⟩;have uv:∀b,b<w.heap.size->w'.heap[b]?=w.heap[b]?:=λb hb=>kb.frame b hb λi o hi=>by simp at hi
 cases en with
 |returned u =>
  have hE':Rel c' x u:=hE;refine wd w' u (s.hs.ext uv (.refl c) (λ_ _=>rfl) (λ_ _ _ h=>.inl h) s.hs.dom) (k.ext' s.hs uv (.refl c) (λ_=>rfl) kb.os kb.tape kb.output kb.size λ_ _ _ h=>.inl h) (xgx hx hE')
 |_=>simp[EndR]at hE
def xi1(P:Program)(N:Nat)(o:Oper)(e:Env)(K:Env->Prop):Prop :=
 o.guard=none/\zj N o.dst/\match o.op with
  | .call { callee:=.value f,args,.. }=>me e true (f::args.toList)/\match e.getS f with
   | .fn (.func fid) [] []=>∃x,APure P fid (args.toList.map λy=>qos e.h (e.getS y)) x/\qyj x=true/\K (e.put o.dst x)
   |_=>False
  |_=>False
theorem xqt{Q:AExit->Env->Prop}{ops:Array Oper}{o:Oper}{l2:List Oper}:∀(l1 done:List Oper) (e:Env),ops.toList=done++(l1++o::l2) ->
  qnl P E.N (λx e1=>match x with
   | .normal=>xi1 P E.N o e1 λe2=>qnl P E.N Q ((done++l1++[o]).map (·.dst)) l2 e2
   |x=>Q x e1) (done.map (·.dst)) l1 e->qsb P E ops (l1++o::l2) Q e
 | [],done,e,vn,h=>by
  intro c a w s k;simp only[qnl]at h;obtain⟨hg,hd,h⟩:=h;simp only[ff];refine qcn (G:=true) qh0 (λ_=>?_) (λh=>by cases h);split at h
  .rename_i f args ts lf;obtain⟨iz,h⟩:=h;split at h
   .rename_i fid hf;obtain⟨x,hP,hx,hK⟩:=h;refine jii s k lf iz hf hP hx λw' u jg kb hr=>?_;exact qca l2 (done++[]++[o]) _ af hK c _ w' (s.put (.refl c) jg (qyd hd) hr) (by cases o.dst<;>exact kb)
   .grind
  .grind
 |p::l1,done,e,vn,h=>by
  have ih:=λe'=>xqt (Q:=Q) (ops:=ops) (o:=o) (l2:=l2) l1 (done++[p]) e' af;simp only[eg,dj,fc,dn,qix,ff]at ih;intro c a w s k;simp only[qnl]at h;refine xij h (λG hG=>qx1 vn s hG) s k (λv e' c' a' w' u hq hr hs hk=>⟨.panic v,e',c',hq,hr,hs,hk⟩) λe' c' a' w' hK s' k'=>?_;exact ih e' ca c' a' w' s' k'
theorem xpf{Q:AExit->Env->Prop}{ops:Array Oper}{l2:List Oper}:∀(l1 done:List Oper) (e:Env),ops.toList=done++(l1++l2) ->
  qnl P E.N (λx e1=>match x with
   | .normal=>qsb P E ops l2 Q e1
   |x=>Q x e1) (done.map (·.dst)) l1 e->qsb P E ops (l1++l2) Q e
 | [],done,e,vn,h=>h
 |p::l1,done,e,vn,h=>by
  have ih:=λe'=>xpf (Q:=Q) (ops:=ops) (l2:=l2) l1 (done++[p]) e' af;simp only[eg,dj,fc]at ih;intro c a w s k;simp only[qnl]at h;refine xij h (λG hG=>qx1 vn s hG) s k (λv e' c' a' w' u hq hr hs hk=>⟨.panic v,e',c',hq,hr,hs,hk⟩) λe' c' a' w' hK s' k'=>?_;exact ih e' hK c' a' w' s' k'
theorem qeq{id:Nat}{Q:AExit->Env->Prop}{e:Env}(l1 l2:List Oper) (h:qnl P E.N (λx e1=>match x with
   | .normal=>qsb P E (l1++l2).toArray l2 Q e1
   |x=>Q x e1) [] l1 e):AWp P E (.region id (l1++l2).toArray false) Q e :=
 xc1 (by
  have:=xpf (Q:=Q) (ops:=(l1++l2).toArray) (l2:=l2) l1 [] e ac qf7;simpa using this)
theorem jaf{id:Nat}{Q:AExit->Env->Prop}{e:Env}(l1:List Oper){o:Oper}{l2:List Oper} (h:qnl P E.N (λx e1=>match x with
   | .normal=>xi1 P E.N o e1 λe2=>qnl P E.N Q ((l1++[o]).map (·.dst)) l2 e2
   |x=>Q x e1) [] l1 e):AWp P E (.region id (l1++o::l2).toArray false) Q e :=
 xc1 (by
  have:=xqt (Q:=Q) (ops:=(l1++o::l2).toArray) (o:=o) (l2:=l2) l1 [] e ac qf7;simpa using this)
end
end Go.Abs
namespace Go.Abs
open Go.Proofs Go.Shelf
theorem qb3{b:Nat}{e:TypeId}{fz:Nat×Nat}:∀(vs:List Value) (o:Nat) (w:World) (cur:Array Value),w.heap[b]?=some (.cells cur e fz)->o+vs.length<=cur.size ->
  ∃qp8,(w.setCells b o vs).heap[b]?=some (.cells qp8 e fz)/\qp8.size=cur.size/\(∀j:Nat,qp8[j]?=if o<=j/\j<o+vs.length then vs[j - o]? else cur[j]?)/\(w.setCells b o vs).heap.size=w.heap.size /\
   (w.setCells b o vs).os=w.os/\(w.setCells b o vs).tape=w.tape/\(w.setCells b o vs).output=w.output/\∀k,k≠b->(w.setCells b o vs).heap[k]?=w.heap[k]?
 | [],o,w,cur,h,_=>⟨cur,h,rfl,λj=>by simp;intro h1 h2;omega,rfl,rfl,rfl,rfl,λ_ _=>rfl⟩
 |v::vs,o,w,cur,h,hl=>by
  simp only[dy]at hl;have hb:b<w.heap.size:=(fv.1 h).1;have hv:w.heap[b]=.cells cur e fz:=(fv.1 h).2;have h1:(w.setCell ⟨b,o,none⟩ v).heap[b]?=some (.cells (cur.setIfInBounds o v) e fz):=by
   unfold World.setCell;rw[fi af,Array.getElem_modify];simp[hv]
  obtain⟨qp8,g1,g2,g3,g4,g5,g6,g7,g8⟩:=qb3 vs (o+1) (w.setCell ⟨b,o,none⟩ v) (cur.setIfInBounds o v) h1 az;refine⟨qp8,g1,by rw[g2];simp,λj=>?_,by rw[World.setCells,g4];simp,g5,g6,g7,λk hk=>?_⟩
  .grind
  .rw[World.setCells,g8 k hk];unfold World.setCell;simp[qj6,Ne.symm hk]
structure InsPost(w w':World)(v v':Value)(e:TypeId)(n:Nat)(us:List Value):Prop where
 one:v'.oneCell'=true
 own:w'.ownsRow 0 e 1 v' n us
 os:w'.os=w.os
 tape:w'.tape=w.tape
 output:w'.output=w.output
 size:w.heap.size<=w'.heap.size
 two:(∃g,v.ownBlock=some g/\v'.ownBlock=some g/\∀k,k≠g->w'.heap[k]?=w.heap[k]?)\/(v'.ownBlock=some w.heap.size/\∀k,k<w.heap.size->w'.heap[k]?=w.heap[k]?)
theorem jcz(z:Array Value)(n:Nat)(hz:z.size=1):(Builtin.zeroCells z n).size=n:=by
 simp[Builtin.zeroCells,hz]
theorem xun{P:Program}{ρ:Ren}(L:Lays2.n22 P ρ){w:World}{v:Value}{n:Nat}{cs:List Value}(m8:w.ownsRow 0 (ρ.t 9) 1 v n cs)(nj:∀u∈cs,u.oneCell'=true){pos:Nat}(hat:pos<=n)(hn:n+1<=68719476736)
  {vb vc:Nat} {kv:Value} {tA:TypeId} (hk:w.heap[vb]?=some (.cells #[kv] tA (0,0))) (hk1:kv.oneCell'=true) (it:∀g,v.ownBlock=some g->vb≠g) :
  Calls P (ρ.f 22) #[v,.int .i64 pos,.slice (some ⟨vb,0,none⟩) 1 vc] w λe w'=>∃v',e=.returned v'/\InsPost w w' v v' (ρ.t 9) (n+1) (cs.take pos++kv::cs.drop pos):=by
 have hkc:∀j u,[kv][j]?=some u->w.cell? ⟨vb,0+j,none⟩=some u:=λj u hu=>by
  cases j with
  |zero=>simp at hu;subst hu;simp[World.cell?,hk]
  |succ j=>simp at hu
 have qu7:∀u∈[kv],u.oneCell'=true:=λu hu=>by simp at hu;subst hu;exact hk1
 have hzc:∀m,(Builtin.zeroCells (Value.string ⟨#[]⟩).cells m).size=m:=λm=>jcz _ m rfl;have zf:cs.length=n:=by have:=m8.1;omega
 have yz:pos=n->cs.take pos++kv::cs.drop pos=cs++[kv]:=λh=>by grind
 have nl:=grownCap_ge w (n+1);have lw:=λold=>grownCap_le_maxLen w (n+1) old (ρ.t 9) qfg;rcases m8.2 with⟨rfl,rfl⟩|⟨g,cap,cur,rfl,_,hg,ng,quq,md,xy⟩
 .
  have vu:pos=0:=aa;subst vu;have hnil:cs=[]:=fg zf;subst hnil;refine(Any2.slices_Insert_string_end_grow L none 0 0 vb 0 1 vc [] [kv] w aa (cn _) aa aa rfl rfl (λ_=>rfl) (λa h=>by cases h) hkc qu7).mono ?_;rintro e w' ⟨rfl,rfl⟩;refine⟨_,rfl,rfl,⟨ac,.inr ⟨w.heap.size,_,_,rfl,dq _,heap_alloc_new _ _,nl 0 _,lw 0,?_,ac⟩⟩,rfl,rfl,rfl,ac,.inr ⟨rfl,λk hk=>Go.heap_alloc_old _ _ hk⟩⟩;have:=nl 0 (ρ.t 9);simp only[cz]at this;simp[hzc];omega
 .have hcc:cap<=9223372036854775807:=by simp only[maxLen]at quq;omega
  have hvb:vb≠g:=it g rfl;have mb:∀j u,cs[j]?=some u->w.cell? ⟨g,0+j,none⟩=some u:=λj u hu=>by
   have:=m8.cells (g:=g) rfl j u hu
   rwa [vg]at this
  have qua:cur.size=cap:=aa;have xfq:∀j,j<cap->(w.cell? ⟨g,0+j,none⟩).isSome=true:=λj hj=>by
   simp[World.cell?,hg];omega
  have hfz:∀j,w.frozen? ⟨g,0+j,none⟩=false:=λj=>by simp[World.frozen?,hg]
  have hcurn:∀j,j<n->cur[j]?=cs[j]?:=λj hj=>by grind
  rcases ei pos n with il|hge'
  .rcases ei cap (n+1)with yh|yh
   .
    refine(Any2.slices_Insert_string_grow L g 0 n cap pos vb 0 1 vc cs [kv] w il aa ng yh aa zf rfl mb hkc nj qu7).mono ?_;rintro e w' ⟨rfl,rfl⟩;have zp:=nl cap (ρ.t 9);have h0:(w.alloc (.cells ((cs.take pos).toArray++Builtin.zeroCells (Value.string ⟨#[]⟩).cells (n+1 - pos)++Builtin.zeroCells (Value.string ⟨#[]⟩).cells (grownCap w (n+1) cap (ρ.t 9) - (n+1))) (ρ.t 9))).drew.heap[w.heap.size]?=some (.cells ((cs.take pos).toArray++Builtin.zeroCells (Value.string ⟨#[]⟩).cells (n+1 - pos)++Builtin.zeroCells (Value.string ⟨#[]⟩).cells (grownCap w (n+1) cap (ρ.t 9) - (n+1))) (ρ.t 9) (0,0)):=heap_alloc_new _ _;have jx:((cs.take pos).toArray++Builtin.zeroCells (Value.string ⟨#[]⟩).cells (n+1 - pos)++Builtin.zeroCells (Value.string ⟨#[]⟩).cells (grownCap w (n+1) cap (ρ.t 9) - (n+1))).size=grownCap w (n+1) cap (ρ.t 9):=af;obtain⟨c1,a1,a2,a3,a4,a5,a6,a7,a8⟩:=qb3 [kv] pos _ _ h0 af;obtain⟨c2,b1,b2,b3,b4,b5,b6,b7,b8⟩:=qb3 (cs.drop pos) (pos+1) ((w.alloc (.cells ((cs.take pos).toArray++Builtin.zeroCells (Value.string ⟨#[]⟩).cells (n+1 - pos)++Builtin.zeroCells (Value.string ⟨#[]⟩).cells (grownCap w (n+1) cap (ρ.t 9) - (n+1))) (ρ.t 9))).drew.setCells w.heap.size pos [kv]).drew c1 a1 af;refine⟨_,rfl,rfl,⟨by simp[zf];omega,.inr ⟨w.heap.size,_,c2,rfl,dq _,b1,zp,lw cap,by rw[b2,a2,jx];omega,?_⟩⟩,?_,?_,?_,?_,.inr ⟨rfl,λk hk=>?_⟩⟩
    .apply fh;intro j;rw[dt,fb,b3 j,a3 j];simp only[qi8,zf,dy,ed];by_cases h1:j<pos
     .grind
     .by_cases h2:j=pos
      .subst h2;rw[if_pos aa,if_neg aa,if_pos aa,cx af];simp[zf,fm hat]
      .by_cases h3:j<n+1
       .rw[if_pos aa,if_pos aa,cx af];simp only[ey,zf,fm hat];rw[show j - pos=(j - (pos+1))+1 by omega];rfl
       .grind
    .rw[b5];exact a5
    .rw[b6];exact a6
    .rw[b7];exact a7
    .grind
    .rw[b8 k aa];show((w.alloc _).drew.setCells w.heap.size pos [kv]).heap[k]?=_;rw[a8 k aa];exact Go.heap_alloc_old _ _ hk
   .
    refine(Any2.slices_Insert_string_shift L g 0 n cap pos vb 0 1 vc cs [kv] w il aa yh hcc hvb zf rfl mb (λj hj=>xfq j aa) (λj _=>hfz j) hkc nj qu7 tA (ρ.t 9) 1 cap (by simp[World.shape?,hk]) (by simp[World.shape?,hg,qua]) aa qgw qgw).mono ?_;rintro e w' ⟨rfl,rfl⟩;obtain⟨c1,a1,a2,a3,a4,a5,a6,a7,a8⟩:=qb3 (cs.drop pos) (0+(pos+1)) w.drew cur hg af;obtain⟨c2,b1,b2,b3,b4,b5,b6,b7,b8⟩:=qb3 [kv] (0+pos) _ c1 a1 af;refine⟨_,rfl,rfl,⟨by simp[zf];omega,.inr ⟨g,cap,c2,rfl,dq _,b1,yh,quq,by rw[b2,a2,md],?_⟩⟩,?_,?_,?_,?_,.inl ⟨g,rfl,rfl,λk hk=>?_⟩⟩
    .apply fh;intro j;rw[dt,fb,b3 j,a3 j];simp only[qi8,zf,dy,ed,cz];by_cases h1:j<pos
     .grind
     .by_cases h2:j=pos
      .subst h2;rw[if_pos aa,if_pos aa,cx af];simp[zf,fm hat]
      .by_cases h3:j<n+1
       .rw[if_pos aa,if_neg aa,if_pos aa,cx af];simp only[ey,zf,fm hat];rw[show j - pos=(j - (pos+1))+1 by omega];rfl
       .grind
    .rw[b5];exact a5
    .simp_all
    .rw[b7];exact a7
    .simp_all
    .rw[b8 k hk,a8 k hk];rfl
  .have hpn:pos=n:=aa;subst hpn;rw[yz rfl];rcases ei cap (pos+1)with yh|yh
   .
    refine(Any2.slices_Insert_string_end_grow L (some ⟨g,0,none⟩) pos cap vb 0 1 vc cs [kv] w aa ng yh aa zf rfl (λh=>by cases h) (λa h=>by cases h;exact λj u hu=>by rw[vg];exact mb j u hu) hkc qu7).mono ?_;rintro e w' ⟨rfl,rfl⟩;have zp:=nl cap (ρ.t 9);refine⟨_,rfl,rfl,⟨by simp[zf],.inr ⟨w.heap.size,_,_,rfl,dq _,heap_alloc_new _ _,zp,lw cap,?_,?_⟩⟩,rfl,rfl,rfl,ac,.inr ⟨rfl,λk hk=>Go.heap_alloc_old _ _ hk⟩⟩
    .grind
    .grind
   .
    refine(Any2.slices_Insert_string_end_room L g 0 pos cap vb 0 1 vc [kv] w aa yh hcc rfl (λj hj=>by have:=xfq (pos+j) aa;rwa [cz]at this|-) (λj _=>by simp[World.frozen?,hg]) hkc qu7).mono ?_;rintro e w' ⟨rfl,rfl⟩;obtain⟨c1,a1,a2,a3,a4,a5,a6,a7,a8⟩:=qb3 [kv] (0+pos) w cur hg az;refine⟨_,rfl,rfl,⟨by simp[zf],.inr ⟨g,cap,c1,rfl,dq _,a1,yh,quq,by rw[a2,md],?_⟩⟩,a5,a6,a7,by rw[a4];exact cn _,.inl ⟨g,rfl,rfl,a8⟩⟩;apply fh;intro j;rw[dt,fb,a3 j];simp only[dy,ed,cz];by_cases h1:j<pos
    .grind
    .grind
section
variable {P:Program} {E:Ent}
theorem xv1{T el:TypeId}(hk:im P T=.slice el 1)(oq:im P el≠.other)(hsize:jd P el=1){v:Value}(h1:v.oneCell'=true)(w:World) :
  (Instr.buildSlice T 1 #[(0,v)]).run P w=.ok (.slice (some ⟨w.heap.size,0,none⟩) 1 1) (w.alloc (.cells #[v] el)):=by
 obtain⟨iT,dT,zT,_,pw,_,ua,_⟩:=li hk ac;obtain⟨rfl,ie,ln,un⟩:=vh ua;obtain⟨ie',de,ze,qi,_,yp,_,hts,_,p8,hz1⟩:=li (P:=P) (t:=el) rfl oq;rw[ln]at qi;cases qi;have yt:(zeroValue el).run P w=.ok ze w:=qfk;have hvc:v.cells = #[v]:=xss h1;have hz:ze.cells.size=1:=aa;simp only[Instr.buildSlice,c8,ox pw,c9,xl ln,un];have h24:¬(1 * 1 > 2 ^ 24):=ba;rw[if_neg h24,if_neg ba];simp only[c8,yt,c9,dm];have hf:Instr.fill (λi=>some (i * 1,1)) ((Array.range (1 * 1)).map (ze.cells[· % ze.cells.size]!)) [(0,v)]=some #[v]:=by
  simp[Instr.fill,hvc,hz,show Array.range 1 = #[0]from rfl]
 simp only[hf,newRow,c8,qck,c9,dm]
theorem jks{ρ:Ren}(L:Lays2.n22 P ρ){c:Ctx}{e:Env}{a:Act}{w:World}(s:Sim E.N c e a w)(k:E.ok c e.h w){ops:Array Oper}{rest:List Oper}{o1 o2:Oper}{Q:Exit->Act->World->Prop}{T:TypeId}{x xa xb f:Operand}{d1:Nat}{ts:Array TypeId}
  (g1:o1.guard=none) (g2:o2.guard=none) (hd1:o1.dst=some d1) (hlt1:d1<E.N) (hd2:zj E.N o2.dst) (hop1:o1.op=.buildSlice T 1 #[(0,x)]) (hop2:o2.op=.call { callee:=.value f,args:=#[xa,xb,.tmp d1],argTypes:=ts })
  (hT:im P T=.slice (ρ.t 9) 1) (hel:im P (ρ.t 9)≠.other) (jx:jd P (ρ.t 9)=1) (hx:me e true [x,xa,xb,f]) {key:ByteArray} (hxk:e.getS x=.val (.string key)) {i n:Nat} (hxa:e.getS xa=.own i n) {pos:Nat} (hxb:e.getS xb=.val (.int .i64 pos))
  (it:∀t,xa=.tmp t->t≠d1) (hneb:∀t,xb=.tmp t->t≠d1) (hf:f=.func (ρ.f 22)) {rows:List (List AV)} (hi:e.h[i]?=some (.uarr (ρ.t 9) 1 rows)) (hn:rows.length=n) (hpos:pos<=n) (jm:n+1<=68719476736) (hE22:qtr P (ρ.f 22))
  (uy:∀c' a' w',Sim E.N c' ((({ e with h:=e.h.set i (.uarr (ρ.t 9) 1 (rows.take pos++[.val (.string key)]::rows.drop pos)) }:Env).put o1.dst (.slice [[.val (.string key)]])).put o2.dst (.own i (n+1))) a' w'->E.ok c' (e.h.set i (.uarr (ρ.t 9) 1 (rows.take pos++[.val (.string key)]::rows.drop pos))) w'->wpList P ops Q rest a' w') :
  wpList P ops Q (o1::o2::rest) a w:=by
 have jr:=rp s hx;have mq:=jr x ac;have qwa:=jr xa ac;have hrxb:=jr xb ac;rw[hxk]at mq;rw[hxa]at qwa;rw[hxb]at hrxb;have hvx:a.eval x=.string key:=mq.val_inv;have hvb:a.eval xb=.int .i64 pos:=hrxb.val_inv;have xbo:=xv1 (P:=P) hT hel jx (v:=.string key) rfl w;obtain⟨c1,qmn,s1,k1,hD1⟩:=qzg s.hs k #[.string key] (ρ.t 9);refine qcn (G:=true) qe4 (λ_=>?_) (λh=>by cases h);refine vj (w':=w.alloc (.cells #[.string key] (ρ.t 9))) (v:=.slice (some ⟨w.heap.size,0,none⟩) 1 1) (by simp only[execOp,hop1,qji,dj,fc,hvx,c8,xbo,c9,dm]) ?_;have hlit:Rel c1 (.slice [[.val (.string key)]]) (.slice (some ⟨w.heap.size,0,none⟩) 1 1):=by
  refine .data (.slice [[.val (.string key)]] w.heap.size 0 1 1 (λ_ _=>.string key) ac ac ac (λi j r x' hr hx=>?_) λi j r x' hr hx=>?_)
  .grind
  .cases i with
   |zero =>
    simp at hr;subst hr;cases j with
    |zero=>simp at hx;subst hx;exact .val _ rfl (qrj mq)
    |succ j=>simp at hx
   |succ i=>simp at hr
 have s2:Sim E.N c1 (e.put o1.dst (.slice [[.val (.string key)]])) (a.put o1.dst (.slice (some ⟨w.heap.size,0,none⟩) 1 1)) (w.alloc (.cells #[.string key] (ρ.t 9))) :=
  s.put qmn s1 (λj hj=>by rw[hd1]at hj;cases hj;exact hlt1) hlit
 -- the call
 obtain⟨hv,vs,m8,oz,zk⟩:=qwx s1 hi hn (qwa.mono qmn);have hrow1:∀j u,vs[j]?=some u->∃r x,rows[j]?=some r/\r[0]?=some x/\DRel c1.D x u:=λj u hu=>by
  have il:j<rows.length:=by have:=(cm.1 hu).1;rw[m8.1]at this;omega
  have hr:rows[j]?=some rows[j]:=bc;have hrl':=oz _ (cv hr);have o6:rows[j][0]?=some (rows[j][0]'aa):=ac;obtain⟨u',wo,hd⟩:=zk j 0 _ _ hr o6;rw[Nat.mul_one,ea,hu]at wo;cases wo;exact⟨_,_,hr,o6,hd⟩
 have nj:∀u,u∈vs->u.oneCell'=true:=λu hu=>by
  obtain⟨j,hj⟩:=da hu;obtain⟨r,x,_,_,hd⟩:=hrow1 j u hj;exact hd.one
 have qsp:w.heap.size<(w.alloc (.cells #[.string key] (ρ.t 9))).heap.size:=ac;have hkeep:(w.alloc (.cells #[.string key] (ρ.t 9))).heap[w.heap.size]?=some (.cells #[.string key] (ρ.t 9) (0,0)):=heap_alloc_new _ _;have r8:∀g,(a.eval xa).ownBlock=some g->w.heap.size≠g:=λg hg e1=>by
  have na:c.sl i n=some (a.eval xa):=by
   cases qwa with
   |data h=>cases h
   |own _ _ _ h _=>exact h
  have hb:je c i (.uarr (ρ.t 9) 1 rows)=some g:=bz;have:=(s.hs.obj i _ hi).lt hb;omega
 have qq2:=xun L m8 nj hpos jm (vb:=w.heap.size) (vc:=1) hkeep rfl r8;have heva:(a.put o1.dst (.slice (some ⟨w.heap.size,0,none⟩) 1 1)).eval xa=a.eval xa:=by
  rw[hd1];cases xa with
  |tmp t=>have:=it t rfl;simp[Act.put,Act.eval,gg (Ne.symm this),dz]
  |_=>rfl
 have hevb:(a.put o1.dst (.slice (some ⟨w.heap.size,0,none⟩) 1 1)).eval xb=.int .i64 pos:=by
  rw[<-hvb,hd1];cases xb with
  |tmp t=>have:=hneb t rfl;simp[Act.put,Act.eval,gg (Ne.symm this),dz]
  |_=>rfl
 have ut:d1<a.tmps.size:=qh5;have hevd:(a.put o1.dst (.slice (some ⟨w.heap.size,0,none⟩) 1 1)).eval (.tmp d1)=.slice (some ⟨w.heap.size,0,none⟩) 1 1:=by
  rw[hd1];simp[Act.put,Act.eval,ut]
 refine qcn (G:=true) qh1 (λ_=>?_) (λh=>by cases h);unfold Oper.wp;rw[qws (us:=#[]) (vs:=#[]) hop2 (by rw[hf];rfl) hE22];simp only[qjz,qkd,qji,dj,fc,heva,hevb,hevd];refine qq2.mono ?_;rintro en w' ⟨v',rfl,zd⟩;have hrlen:rows.length=n:=hn;have qv7:(rows.take pos++[.val (.string key)]::rows.drop pos).length=n+1:=az;obtain⟨c2,qq0,s3,k3,hr3⟩:=xqs (E:=E) s1 k1 (rows':=rows.take pos++[.val (.string key)]::rows.drop pos) (us:=vs.take pos++.string key::vs.drop pos) hi af aa aa (λr hr=>by
   rcases dw.1 hr with hr|hr
   .grind
   .rcases c0.1 hr with rfl|hr
    .rfl
    .exact oz r (qjf hr)) (λi' j r x hr hx=>by
   have hvl:vs.length=n:=by have:=m8.1;omega
   have hj0:∀r':List AV,r'.length=1->r'[j]?=some x->j=0:=λr' jf nw=>by have:=(cm.1 nw).1;omega
   by_cases h1:i'<pos
   .grind
   .rw[cx az]at hr;simp only[ey,hrlen,fm hpos]at hr;by_cases h2:i'=pos
    .subst h2;rw[fe]at hr;simp at hr;subst hr;have hj:=hj0 [_] rfl hx;subst hj;simp at hx;subst hx;refine⟨.string key,?_,.val _ rfl (qrj mq)⟩;rw[Nat.mul_one,ea,cx az];simp[hvl,fm hpos]
    .rw[show i' - pos=(i' - (pos+1))+1 by omega]at hr;simp only[qi6,ew]at hr;rw[show pos+(i' - (pos+1))=i' - 1 by omega]at hr;have hj:=hj0 r (oz r (cv hr)) hx;subst hj;obtain⟨u,hu,hd⟩:=zk (i' - 1) 0 r x hr hx;refine⟨u,?_,hd⟩;rw[Nat.mul_one,ea]at hu|-;rw[cx az];simp only[ey,hvl,fm hpos];rw[show i' - pos=(i' - (pos+1))+1 by omega];simp only[qi6,ew];rw[show pos+(i' - (pos+1))=i' - 1 by omega];exact hu) zd.one (by rw[qv7];exact zd.own) zd.os zd.tape zd.output zd.size zd.two
 rw[qv7]at hr3;refine uy c2 _ w' ?_ k3;have:=s2.put (x:=.own i (n+1)) (d:=o2.dst) qq0 s3 (qyd hd2) hr3;rw[hd1]at this|-;exact this
end
end Go.Abs
