/- Part 30 of a proof. -/
import Derived.Test.YtolejdhnnchfpaaGreatDoorQ29
set_option linter.all false
set_option maxRecDepth 4000
set_option maxHeartbeats 2000000
namespace Go.Proofs.YtolejdhnnchfpaaGreatDoor
open Go Go.Abs Go.Cw Go.Proofs.Tryz
theorem xp7{k:ig}{r:LReq}:∀{l:List LQ},(lu l)[l7 k (lu l)]?=some k->∃(h:l7 k (lu l)<l.length),l[l7 k (lu l)].key=k/\nc k r l=l.set (l7 k (lu l)) ⟨k,l[l7 k (lu l)].reqs++[r]⟩
 | [],h=>by simp at h
 |q::l,h=>by
  simp only[dj,l7]at h|-;by_cases h1:js q.key k=true
  .simp_all[nc,xp7]
  .grind[nc]
theorem xmd{k:ig}{r:LReq}:∀{l:List LQ},¬(lu l)[l7 k (lu l)]?=some k->nc k r l=l.take (l7 k (lu l))++⟨k,[r]⟩::l.drop (l7 k (lu l))
 | [],h=>by simp[nc,l7]
 |q::l,h=>by
  simp only[dj,l7]at h|-;by_cases h1:js q.key k=true
  .simp_all[nc,xmd]
  .grind[nc]
def q9(ks:List Nat)(qs:List LQ):List (List AV):=List.zipWith (λk (q:LQ)=>[S q.key,.own k q.reqs.length]) ks qs
theorem xcc{ks:List Nat}{qs:List LQ}(h:ks.length=qs.length):(q9 ks qs).length=qs.length:=by simp[q9,h]
theorem xhs{ks:List Nat}{qs:List LQ}{n k:Nat}{q:LQ}(h1:ks[n]?=some k)(h2:qs[n]?=some q):(q9 ks qs)[n]?=some [S q.key,.own k q.reqs.length]:=by grind[q9]
def isQ(H:g9)(k:Nat)(l:List LReq):Prop:=H[k]?=some (.uarr 152 2 (l.map LReq.c))\/H[k]?=some (.arr 152 2 (l.map LReq.c))
structure TabH(B:Nat)(H:g9)(o g q:Nat)(ks:List Nat)(T:LT):Prop where
 ho:H[o]?=some (.cells [.own g T.glob.length,.own q T.qs.length])
 hg:H[g]?=some (.uarr 152 2 (T.glob.map LReq.c))
 hq:H[q]?=some (.oarr 192 2 (q9 ks T.qs))
 hkl:ks.length=T.qs.length
 hk:∀p,p∈ks.zip T.qs->isQ H p.1 p.2.reqs
 nd:ks.Nodup
 gk:g∉ks
 bo:B<=o
 bg:B<=g
 bq:B<=q
 bk:∀k∈ks,B<=k
theorem TabH.hkI{B:Nat}{H:g9}{o g q:Nat}{ks:List Nat}{T:LT}(h:TabH B H o g q ks T)(j k:Nat)(x:LQ)(h1:ks[j]?=some k)(h2:T.qs[j]?=some x):isQ H k x.reqs :=
 h.hk (k,x) (cv (i:=j) af)
theorem je3{H:g9}{k:Nat}{l:List LReq}(h:isQ H k l):k<H.length:=h.elim (λh=>(cm.1 h).1) (λh=>(cm.1 h).1)
theorem TabH.kin{B:Nat}{H:g9}{o g q:Nat}{ks:List Nat}{T:LT}(h:TabH B H o g q ks T){k:Nat}(hk:k∈ks):∃x,(k,x)∈ks.zip T.qs/\isQ H k x.reqs:=by
 obtain⟨j,hj⟩:=da hk;have il:j<T.qs.length:=by rw[<-h.hkl];exact(cm.1 hj).1
 have h2:T.qs[j]?=some T.qs[j]:=cu il;exact⟨_,cv (i:=j) af,h.hkI j k _ hj h2⟩
theorem TabH.kne{B:Nat}{H:g9}{o g q:Nat}{ks:List Nat}{T:LT}(h:TabH B H o g q ks T){k:Nat}(hk:k∈ks):k<H.length/\k≠o/\k≠q/\k≠g:=by
 obtain⟨x,_,hq⟩:=h.kin hk;refine⟨je3 hq,λe=>?_,λe=>?_,λe=>h.gk (e▸hk)⟩
 .rw[e]at hq;rcases hq with hq|hq<;>(rw[h.ho]at hq;cases hq)
 .rw[e]at hq;rcases hq with hq|hq<;>(rw[h.hq]at hq;cases hq)
theorem TabH.gne{B:Nat}{H:g9}{o g q:Nat}{ks:List Nat}{T:LT}(h:TabH B H o g q ks T):g≠o/\g≠q/\q≠o:=by
 refine⟨λe=>?_,λe=>?_,λe=>?_⟩
 .have h1:=h.hg;rw[e,h.ho]at h1;cases h1
 .have h1:=h.hg;rw[e,h.hq]at h1;cases h1
 .have h1:=h.hq;rw[e,h.ho]at h1;cases h1
theorem xz4{ks:List Nat}{qs:List LQ}{pos k:Nat}{q:LQ}(h:ks.length=qs.length):q9 (ks.take pos++k::ks.drop pos) (qs.take pos++q::qs.drop pos)=(q9 ks qs).take pos++[S q.key,.own k q.reqs.length]::(q9 ks qs).drop pos:=by
 unfold q9;rw[List.zipWith_append bx,List.zipWith_cons_cons,List.take_zipWith,List.drop_zipWith]
theorem xxw{ks:List Nat}{k:Nat}{q:LQ}:∀{qs:List LQ} {pos:Nat},ks[pos]?=some k->q9 ks (qs.set pos q)=(q9 ks qs).set pos [S q.key,.own k q.reqs.length]:=by
 induction ks with
 |nil=>intro qs pos h;simp at h
 |cons x ks ih =>
  intro qs pos h;cases qs with
  |nil=>simp[q9]
  |cons y qs =>
   cases pos with
   |zero=>simp at h;subst h;simp[q9]
   |succ pos =>
    have:=ih (qs:=qs) (pos:=pos) af;simp only[q9,qj8,List.zipWith_cons_cons]at this|-;rw[this]
theorem xuz{α β:Type}(l:List α)(m:List β)(n:Nat):(l.take n).zip (m.take n)=(l.zip m).take n:=by simp[List.zip,List.take_zipWith.symm]
theorem jid{α β:Type}(l:List α)(m:List β)(n:Nat):(l.drop n).zip (m.drop n)=(l.zip m).drop n:=by simp[List.zip,List.drop_zipWith.symm]
theorem xw0{α:Type}(A Z:List α)(x y:α){n:Nat}(h:A.length=n):(A++x::Z).set n y=A++y::Z:=ca
theorem xkz{N:Nat}:∀{ks:List Nat} {qs:List LQ},(∀k∈ks,k<N)->∀r,r∈q9 ks qs->lj N r=true
 | [],_,_,r,h=>by simp[q9]at h
 |_::_,[],_,r,h=>by simp[q9]at h
 |k::ks,q::qs,hk,r,h=>by
  rw[q9,List.zipWith_cons_cons]at h;rcases c0.1 h with rfl|h
  .grind[lj,AV.under]
  .exact xkz (λx hx=>hk x bu) r h
theorem TabH.view{B:Nat}{H:g9}{o g q:Nat}{ks:List Nat}{T:LT}(h:TabH B H o g q ks T):(∀r,r∈q9 ks T.qs->∀x,x∈r->(qos H x).isData=true)/\(q9 ks T.qs).map (λr=>r.map (qos H))=T.qs.map LQ.c:=by
 have key:∀(n k:Nat) (x:LQ),ks[n]?=some k->T.qs[n]?=some x->qos H (.own k x.reqs.length)=.slice (x.reqs.map LReq.c):=λn k x h1 h2=>by
  rcases h.hkI n k x h1 h2 with h3|h3<;>simp[qos,h3]
 constructor
 .intro r hr x hx;obtain⟨n,hn⟩:=da hr;unfold q9 at hn;rw[List.getElem?_zipWith]at hn;split at hn
  .rename_i k y hk hy;cases hn;rcases c0.1 hx with rfl|hx
   .rfl
   .rcases c0.1 hx with rfl|hx
    .rw[key n k y hk hy];rfl
    .cases hx
  .cases hn
 .apply fh;intro n;rw[di,di];rcases ei n T.qs.length with hn|hn
  .have h1:ks[n]?=some (ks[n]'(by rw[h.hkl];exact hn)):=cu _;have h2:T.qs[n]?=some T.qs[n]:=cu _;rw[xhs h1 h2,h2];simp only[e8,dj,fc,key n _ _ h1 h2];rfl
  .rw[fq hn,fq (by rw[xcc h.hkl];exact hn)];rfl
theorem TabH.app{B:Nat}{H:g9}{o g q:Nat}{ks:List Nat}{T:LT}(h:TabH B H o g q ks T)(l:g9):TabH B (H++l) o g q ks T:=by
 have key:∀{i:Nat} {x:AObj},H[i]?=some x->(H++l)[i]?=some x:=λ{i x} h=>by rw[co (cm.1 h).1];exact h
 exact⟨key h.ho,key h.hg,key h.hq,h.hkl,λp hp=>(h.hk p hp).imp key key,h.nd,h.gk,h.bo,h.bg,h.bq,h.bk⟩
theorem xu4{c c':Ctx}{f:Fn}{v:Value}(h:Rel c (.fn f [] []) v):Rel c' (.fn f [] []) v:=by
 cases h with
 |data h=>cases h
 |fn _ _ _ us vs po hl h' h=>exact .fn f [] [] us vs po hl (λj x v hx=>by simp at hx) (λj x v hx=>by simp at hx)
theorem xs3{B:Nat}{H:g9}{o g q:Nat}{ks:List Nat}{T:LT}(hT:TabH B H o g q ks T)(key:ig)(r:LReq)(ha:kg (lu T.qs))(hl:T.qs.length<68719476736)(hlr:∀x∈T.qs,x.reqs.length<68719476736) :
  ACalls prog 92 [P0 o,S key,.agg r.c] H λr' H'=>r'=.ret (.tuple [])/\(∃ks',TabH B H' o g q ks' ⟨T.glob,nc key r T.qs⟩)/\H.length<=H'.length/\∀i,i<B->H'[i]?=H[i]?:=by
 refine re func92 rfl ae (by simp[ntmps92]) ?_;intro E hN hh hu hb iq ju;rw[ntmps92]at hN;have kc:=(cm.1 hT.ho).1;have hq':=(cm.1 hT.hq).1;have jp:=(cm.1 hT.hg).1;have bo:∀l,(H++l)[o]?=some (.cells [.own g T.glob.length,.own q T.qs.length]):=λl=>by rw[co kc];exact hT.ho
 have bq:∀l,(H++l)[q]?=some (.oarr 192 2 (q9 ks T.qs)):=λl=>by rw[co hq'];exact hT.hq
 refine tg (qr6 ?_);simp[go_sem,hN];refine tg (qeq [_,_,_,_,_] _ ?_);simp[go_sem,hN,bo];intro c a w sm k;have hT1:=hT.app [.cells r.c];refine xrq sm k (f:=.func 132) (args:=#[.tmp 12,.tmp 13,.func 133]) rfl qhw rfl ag (fid:=132) ag
  (λy=>match y with| .tmp 12=>.slice (T.qs.map LQ.c)| .tmp 13=>S key|_=>.fn (.func 133) [] []) ?_ (x:=.tuple [I (l7 key (lu T.qs)),Bo (decide ((lu T.qs)[l7 key (lu T.qs)]?=some key))]) (jby T.qs key ha) rfl ?_
 .intro y hy v hr;simp only[c0,qjc,or_false]at hy;rcases hy with rfl|rfl|rfl
  .have h9:=xvt sm.hs hT1.hq (xcc hT.hkl) qf1 hT1.view.1
   rwa [hT1.view.2]at h9
  .exact xgx rfl qf1
  .exact xu4 (c:=c) qf1
 intro a' w' s' k';refine qca _ [_,_,_,_,_,_] _ rfl ?_ _ a' w' s' k';simp[go_sem,hN];have hps:=qwn key (lu T.qs);rw[show(lu T.qs).length=T.qs.length by simp]at hps;have hF:=@xp7 key r T.qs;have hN':=@xmd key r T.qs;refine tg (tg (qr6 ?_));simp[go_sem,hN];generalize hpos:l7 key (lu T.qs)=pos at hps hF hN'|-;have hzl:(q9 ks T.qs).length=T.qs.length:=xcc hT.hkl;by_cases hc:∃a,T.qs[pos]?=some a/\a.key=key
 .refine qy1 (b:=false) (by simp[go_sem];exact hc) (λh=>by cases h) (λ_=>?_);refine xcp ?_;simp;obtain⟨rh,qrg,hqs⟩:=hF (by obtain⟨a,ha,hb⟩:=hc;simp[ha,hb]);have hkp:ks[pos]?=some (ks[pos]'(by rw[hT.hkl];exact rh)):=cu _;have hqp:T.qs[pos]?=some T.qs[pos]:=cu rh;obtain⟨k,hk⟩:∃k,ks[pos]'(by rw[hT.hkl];exact rh)=k:=⟨_,rfl⟩
  rw[hk]at hkp;have hkm:k∈ks:=cv hkp;obtain⟨k1,k2,k3,k4⟩:=hT.kne hkm;obtain⟨n1,n2,n3⟩:=hT.gne;have hrq:=hlr _ (dk rh);obtain⟨R,hR⟩:∃R,q9 ks T.qs=R:=⟨_,rfl⟩
  have hRp:R[pos]?=some [S T.qs[pos].key,.own k T.qs[pos].reqs.length]:=by rw[<-hR];exact xhs hkp hqp
  rw[hR]at hzl;have hRg:∀h,R[pos]'h=[S T.qs[pos].key,.own k T.qs[pos].reqs.length]:=λh=>by have h9:=hRp;rw[cu h]at h9;exact gy h9
  have xq':∀l,(H++l)[q]?=some (.oarr 192 2 R):=λl=>by rw[bq,hR]
  have fin:∀(Y:g9) (nr:AObj),Y.length=H.length+1->Y[q]?=some (.oarr 192 2 (R.set pos [S T.qs[pos].key,.own k (T.qs[pos].reqs.length+1)]))->Y[k]?=some nr->nr.under Y.length=true->isQ Y k (T.qs[pos].reqs++[r]) ->
    (∀i,i<H.length->i≠q->i≠k->Y[i]?=H[i]?)->Y[H.length]?=some (.cells r.c) ->
    hUnder Y.length Y=true/\TabH B Y o g q ks ⟨T.glob,nc key r T.qs⟩/\∀i,i<B->Y[i]?=H[i]?:=by
   intro Y nr hYl yq yk hnu yK ye yr;have qu3:R.set pos [S T.qs[pos].key,AV.own k (T.qs[pos].reqs.length+1)]=q9 ks (nc key r T.qs):=by
    rw[hqs,xxw hkp,hR,qrg];simp
   refine⟨?_,⟨?_,?_,by rw[yq,qu3],?_,λp hp=>?_,hT.nd,hT.gk,hT.bo,hT.bg,hT.bq,hT.bk⟩,λi hi=>?_⟩
   .rw[qb1];intro ob hob;obtain⟨i,hi⟩:=da hob;have ou:i<Y.length:=(cm.1 hi).1;by_cases e1:i=q
    .subst e1;rw[yq]at hi;cases hi;simp only[AObj.under,dr];rw[qu3];exact λr' jf=>xkz (λk hk=>by have:=(hT.kne hk).1;omega) r' jf
    .by_cases e2:i=k
     .subst e2;rw[yk]at hi;cases hi;exact hnu
     .by_cases e3:i=H.length
      .subst e3;rw[yr]at hi;cases hi;rfl
      .rw[ye i aa e1 e2]at hi;exact qb1.1 (uk (by omega:H.length<=Y.length) hu) ob (cv hi)
   .rw[ye o kc (Ne.symm n3) (Ne.symm k2),hT.ho,hqs];simp
   .rw[ye g jp n2 (Ne.symm k4)];exact hT.hg
   .rw[hqs];simp[hT.hkl]
   .obtain⟨j,hj⟩:=da hp;rw[List.getElem?_zip_eq_some]at hj;obtain⟨j1,j2⟩:=hj;simp only[hqs]at j2;by_cases e:j=pos
    .subst e;rw[hkp]at j1;rw[du rh]at j2;have e1:p.1=k:=(gy j1).symm;have e2:p.2=⟨key,T.qs[j].reqs++[r]⟩:=(gy j2).symm;rw[e1,e2];exact yK
    .rw[ct (Ne.symm e)]at j2;have h2:=hT.hkI j p.1 p.2 j1 j2;have h3:=hT.kne (cv j1);have h4:p.1≠k:=λe3=>by
      obtain⟨a1,a2⟩:=cm.1 j1;obtain⟨b1,b2⟩:=cm.1 hkp;have h6:ks[j]=ks[pos]:=by rw[a2,b2,e3]
      rcases Nat.lt_or_gt_of_ne e with h7|h7
      .exact qjs.1 hT.nd j pos a1 b1 h7 h6
      .exact qjs.1 hT.nd pos j b1 a1 h7 h6.symm
     unfold isQ;rw[ye p.1 h3.1 h3.2.2.1 h4];exact h2
   .have h1:=hT.bo;have h2:=hT.bq;have h3:=hT.bk k hkm;exact ye i aa aa aa
  rcases hT.hkI pos k _ hkp hqp with hkk|hkk
  all_goals
   have xk':∀l,(H++l)[k]?=_:=λl=>by rw[co k1]
   have xk2:∀l Z,((H++l).set k Z)[q]?=some (.oarr 192 2 R):=λl Z=>by rw[ct k3];exact xq' l
   have xk3:∀l Z,((H++l).set k Z)[o]?=some (.cells [.own g T.glob.length,.own q T.qs.length]):=λl Z=>by rw[ct k2];exact bo l
  .refine qer 16 15 [0,1,2,3,4] mixed ae ?_;simp-dsimp[go_sem,hN,bo,xq',xk',xk2,xk3,hkk,hzl,rh,hRp,hRg,hrq,LReq.c];refine⟨aa,?_⟩;obtain⟨Y,hY⟩:∃Y,((H++[AObj.cells [I r.t,Bo r.w]]).set k (AObj.uarr 152 2 (T.qs[pos].reqs.map LReq.c++[[AV.val (Value.int IntKind.i64 r.t),AV.val (Value.bool r.w)]]))).set q (AObj.oarr 192 2 (R.set pos [S T.qs[pos].key,AV.own k (T.qs[pos].reqs.length+1)]))=Y:=⟨_,rfl⟩
   have hYl:Y.length=H.length+1:=by rw[<-hY];simp
   have yk:Y[k]?=some (AObj.uarr 152 2 ((T.qs[pos].reqs++[r]).map LReq.c)):=by rw[<-hY,ct (Ne.symm k3),du az,eg];rfl
   obtain⟨f1,f2,f3⟩:=fin Y _ hYl (by rw[<-hY];exact du az) yk rfl (by first|exact .inl yk|exact .inr yk) (λi h1 h2 h3=>by rw[<-hY,ct (Ne.symm h2),ct (Ne.symm h3),co h1])
    (by rw[<-hY,ct aa,ct aa,cx (cn _),fe];rfl)
   rw[hY];exact⟨_,.refl _,Y,rfl,hwk.refl _,aa,f1,rfl,⟨ks,f2⟩,aa,f3⟩
  .refine qer 16 15 [0,1,2,3,4] mixed ae ?_;simp-dsimp[go_sem,hN,bo,xq',xk',xk2,xk3,hkk,hzl,rh,hRp,hRg,hrq,LReq.c];refine⟨aa,?_⟩;obtain⟨Y,hY⟩:∃Y,((H++[AObj.cells [I r.t,Bo r.w]]).set k (AObj.arr 152 2 (T.qs[pos].reqs.map LReq.c++[[AV.val (Value.int IntKind.i64 r.t),AV.val (Value.bool r.w)]]))).set q (AObj.oarr 192 2 (R.set pos [S T.qs[pos].key,AV.own k (T.qs[pos].reqs.length+1)]))=Y:=⟨_,rfl⟩
   have hYl:Y.length=H.length+1:=by rw[<-hY];simp
   have yk:Y[k]?=some (AObj.arr 152 2 ((T.qs[pos].reqs++[r]).map LReq.c)):=by rw[<-hY,ct (Ne.symm k3),du az,eg];rfl
   obtain⟨f1,f2,f3⟩:=fin Y _ hYl (by rw[<-hY];exact du az) yk rfl (by first|exact .inl yk|exact .inr yk) (λi h1 h2 h3=>by rw[<-hY,ct (Ne.symm h2),ct (Ne.symm h3),co h1])
    (by rw[<-hY,ct aa,ct aa,cx (cn _),fe];rfl)
   rw[hY];exact⟨_,.refl _,Y,rfl,hwk.refl _,aa,f1,rfl,⟨ks,f2⟩,aa,f3⟩
 .refine qy1 (b:=true) (by simp[go_sem];simpa using hc) (λ_=>?_) (λh=>by cases h);refine qeq [_,_,_,_,_,_,_,_] _ ?_;simp[go_sem,hN,bo];intro c a w sm k;refine xv7 sm k (T:=99) (el:=192) (sz:=2) (x:=.tmp 26) (xa:=.tmp 23) (xb:=.tmp 24) (f:=.func 134) (d1:=27) (y:=.agg [S key,.nils]) (fid:=134) jc4 rfl rfl rfl aa qhw rfl rfl ag ag ag aa aa ag ag rfl rfl (i:=q) (n:=T.qs.length) ag (pos:=pos) ag ac ac rfl
   ⟨Tryz.f134,func134,ae,ae⟩ (bq _) hzl hps aa λc' a' w' s' k'=>?_
  refine qca _ [_,_,_,_,_,_,_,_,_,_] _ rfl ?_ c' a' w' s' k';have hqo:q≠o:=λe=>by have h1:=hT.hq;rw[e,hT.ho]at h1;cases h1
  have bo2:∀X:AObj,((H++[AObj.cells r.c]).set q X)[o]?=some (.cells [.own g T.glob.length,.own q T.qs.length]):=λX=>by rw[ct hqo];exact bo _
  simp[go_sem,hN,bo2];obtain⟨R,hR⟩:∃R,(q9 ks T.qs).take pos++[S key,.nils]::(q9 ks T.qs).drop pos=R:=⟨_,rfl⟩
  rw[hR];have hRl:R.length=T.qs.length+1:=by rw[<-hR];simp[hzl];omega
  have hRp:R[pos]?=some [S key,.nils]:=by rw[<-hR,cx (by rw[ey,hzl];omega),ey,hzl,fm hps,fe];rfl
  have rh:pos<T.qs.length+1:=aa;obtain⟨X,hX⟩:∃X,((H++[AObj.cells r.c]).set q (.oarr 192 2 R)).set o (.cells [.own g T.glob.length,.own q (T.qs.length+1)])=X:=⟨_,rfl⟩
  rw[hX];have hXl:X.length=H.length+1:=by rw[<-hX];simp
  have xo:X[o]?=some (.cells [.own g T.glob.length,.own q (T.qs.length+1)]):=by rw[<-hX];exact du az
  have xq:X[q]?=some (.oarr 192 2 R):=by rw[<-hX,ct (Ne.symm hqo)];exact du az
  have xr:X[H.length]?=some (.cells r.c):=by rw[<-hX,ct aa,ct aa];simp
  have xe:∀i,i<H.length->i≠o->i≠q->X[i]?=H[i]?:=λi h1 h2 h3=>by rw[<-hX,ct (Ne.symm h2),ct (Ne.symm h3),co h1]
  have xo':∀l,(X++l)[o]?=some (.cells [.own g T.glob.length,.own q (T.qs.length+1)]):=λl=>by rw[co aa];exact xo
  have xq':∀l,(X++l)[q]?=some (.oarr 192 2 R):=λl=>by rw[co aa];exact xq
  have hRg:∀h,R[pos]'h=[S key,.nils]:=λh=>by have h9:=hRp;rw[cu h]at h9;exact gy h9
  have xrg:∀h,X[H.length]'h=.cells r.c:=λh=>by have h9:=xr;rw[cu h]at h9;exact gy h9
  refine qer 16 15 [0,1,2,3,4] mixed ae ?_;simp-dsimp[go_sem,hN,xo,xq,xr,xo',xq',hRl,hRp,hRg,xrg,rh,hXl,LReq.c];have hqs:=hN' (by simpa using hc);obtain⟨n1,n2,n3⟩:=hT.gne;obtain⟨Y,hY⟩:∃Y,(X++[AObj.arr 152 2 [[AV.val (Value.int IntKind.i64 r.t),AV.val (Value.bool r.w)]]]).set q (.oarr 192 2 (R.set pos [S key,AV.own (H.length+1) 1]))=Y:=⟨_,rfl⟩
  rw[hY];have hYl:Y.length=H.length+2:=by rw[<-hY];simp[hXl]
  have yq:Y[q]?=some (.oarr 192 2 (R.set pos [S key,AV.own (H.length+1) 1])):=by rw[<-hY];exact du (by simp[hXl];omega)
  have ye:∀i,i<H.length+1->i≠q->Y[i]?=X[i]?:=λi h1 h2=>by rw[<-hY,ct (Ne.symm h2),co aa]
  have yn:Y[H.length+1]?=some (.arr 152 2 [r.c]):=by rw[<-hY,ct aa,cx aa,hXl,fe];rfl
  have qu3:R.set pos [S key,AV.own (H.length+1) 1]=q9 (ks.take pos++(H.length+1)::ks.drop pos) (nc key r T.qs):=by
   rw[hqs,xz4 hT.hkl,<-hR,xw0 _ _ _ _ (by rw[ey,hzl];omega)];rfl
  have hksl:∀k∈ks.take pos++(H.length+1)::ks.drop pos,k=H.length+1\/k∈ks:=λk hk=>by
   rcases dw.1 hk with h1|h1
   .exact .inr (qi7 h1)
   .rcases c0.1 h1 with h1|h1
    .exact .inl h1
    .exact .inr (qjf h1)
  refine⟨_,.refl _,Y,rfl,hwk.refl _,aa,?_,rfl,⟨ks.take pos++(H.length+1)::ks.drop pos,?_⟩,aa,λi hi=>?_⟩
  .rw[qb1];intro ob hob;obtain⟨i,hi⟩:=da hob;have ou:i<Y.length:=(cm.1 hi).1;by_cases e1:i=q
   .subst e1;rw[yq]at hi;cases hi;simp only[AObj.under,dr];rw[qu3];exact λr' jf=>xkz (λk hk=>by
     rcases hksl k hk with rfl|h1
     .omega
     .have:=(hT.kne h1).1;omega) r' jf
   .by_cases e2:i=H.length+1
    .subst e2;rw[yn]at hi;cases hi;rfl
    .rw[ye i aa e1]at hi;by_cases e3:i=H.length
     .subst e3;rw[xr]at hi;cases hi;rfl
     .by_cases e4:i=o
      .subst e4;rw[xo]at hi;cases hi;simp[AObj.under,lj,AV.under];omega
      .rw[xe i aa e4 e1]at hi;have:=qb1.1 (uk (by omega:H.length<=Y.length) hu) ob (cv hi);exact this
  .refine⟨?_,?_,by rw[yq,qu3],?_,λp hp=>?_,?_,?_,hT.bo,hT.bg,hT.bq,λk hk=>?_⟩
   .rw[ye o aa (Ne.symm n3),xo,hqs];simp;omega
   .rw[ye g aa n2,xe g jp n1 n2];exact hT.hg
   .rw[hqs];simp[hT.hkl]
   .rw[hqs,List.zip_append (by simp[hT.hkl]),List.zip_cons_cons,xuz,jid]at hp;have old:p∈ks.zip T.qs->isQ Y p.1 p.2.reqs:=λh1=>by
     have h2:=hT.hk p h1;have h3:=hT.kne (List.of_mem_zip h1).1;unfold isQ;rw[ye p.1 aa h3.2.2.1,xe p.1 h3.1 h3.2.1 h3.2.2.1];exact h2
    rcases dw.1 hp with h1|h1
    .exact old (qi7 h1)
    .rcases c0.1 h1 with rfl|h1
     .exact .inr yn
     .exact old (qjf h1)
   .have hp:(ks.take pos++(H.length+1)::ks.drop pos).Perm ((H.length+1)::ks):=by
     have:=List.perm_middle (a:=H.length+1) (l₁:=ks.take pos) (l₂:=ks.drop pos)
     rwa [gn]at this
    rw[hp.nodup_iff,qiy];exact⟨λh1=>by have:=(hT.kne h1).1;omega,hT.nd⟩
   .intro h1;rcases hksl g h1 with h2|h2
    .omega
    .exact hT.gk h2
   .rcases hksl k hk with rfl|h1
    .have:=hT.bo;omega
    .exact hT.bk k h1
  .have h1:=hT.bo;have h2:=hT.bq;rw[ye i aa aa,xe i aa aa aa]
theorem xt8(c:Int):APure prog 319 [.val (.int .i32 c)] (Bo (ltr c)):=by
 refine kl func319 ntmps319 rfl ae rfl rfl λE h hN hh hu hb=>?_;simp-dsimp[go_sem,hN,ltr]
theorem jb1(s:ig):APure prog 320 [S s] (I (qud (bl s))):=by
 refine kl func320 ntmps320 rfl ae rfl rfl λE h hN hh hu hb=>?_;simp[go_sem]at hb;simp-dsimp[go_sem,hN];refine jz s.size (λn=>n+qud ((bl s).drop n)=qud (bl s)) (λn=>⟨[(0,S s),(6,P0 h.length)],h++[.iter s n]⟩) ac (Wk.mk ai ac am ag) ?_;intro n hn hI;have hw:=jj hn hb;simp-dsimp[go_sem,hN];by_cases hc:n<s.size
 .rw[qnt hc,qud]at hI;simp-dsimp[go_sem,hN,hc];refine iv (xt8 _) ?_;simp-dsimp[go_sem,hN];by_cases h8:(qq s n).toNat<128
  .simp only[jfd hc h8];refine⟨af,ii (λhg=>?_) (λhg=>?_)⟩
   .have jp:qw7 ((qq s n).toNat:Int)=false:=by simp[qw7]at hg|-;grind
    simp-dsimp[go_sem,hN];rw[<-hI];simp[jp]
   .have jp:qw7 ((qq s n).toNat:Int)=true:=by simp[qw7]at hg|-;grind
    simp-dsimp[go_sem,hN,hw];exact⟨hc,by rw[if_pos jp]at hI;omega,(Wk.mk ai ac am ag)⟩
  .have h9:=xyv hc h8;have jp:qw7 ((qq s n).toNat:Int)=false:=by grind[qw7,ltr]
   have hl:ltr ((Utf8.decode s n).1:Int)=false:=by grind[ltr]
   refine⟨af,ii (λhg=>?_) (λhg=>?_)⟩
   .simp-dsimp[go_sem,hN];rw[<-hI];simp[jp]
   .grind
 .rw[qt1 hc,qud]at hI;simp-dsimp[go_sem,hN,hc];have:qud (bl s)=s.size:=aa;simp[this]
theorem xvr(s:ig):APure prog 321 [S s] (Bo (kw s)):=by
 refine kl func321 ntmps321 rfl ae rfl rfl λE h hN hh hu hb=>?_;simp-dsimp[go_sem,hN]
 iterate 25
  refine ii (λhg=>?_) (λhg=>?_)
  .simp at hg;subst hg;simp-dsimp[go_sem,hN];rfl
  simp-dsimp[go_sem,hN]
  try simp at hg
 simp[kw, *]
theorem jdw(s:ig):APure prog 368 [S s] (Bo (pp s)):=by
 refine kl func368 ntmps368 rfl ae rfl rfl λE h hN hh hu hb=>?_;simp[go_sem]at hb;simp-dsimp[go_sem,hN];refine jz s.size (λn=>nz okB ((bl s).drop n)=nz okB (bl s)) (λn=>⟨[(0,S s),(3,I n)],h⟩) ac (Wk.mk ai ac aa ag) ?_;intro n hn hI;have hw:=jj hn hb;simp-dsimp[go_sem,hN];refine ii ?_ ?_<;>intro hc<;>simp at hc
 .rw[qnt hc,nz]at hI;simp-dsimp[go_sem,hN,hc];refine ii (λhg=>?_) (λhg=>?_)
  .simp-dsimp[go_sem,hN];simp[pp,<-hI,okB,hg]
  .simp-dsimp[go_sem,hN,hw];exact⟨hc,qgu,(Wk.mk ai ac aa ag)⟩
 .rw[qt1 aa,nz]at hI;simp-dsimp[go_sem,hN,pp,<-hI]
theorem jkh(op:Int):APure prog 367 [I op] (I (arity op)):=by
 refine kl func367 ntmps367 rfl ae rfl rfl λE h hN hh hu hb=>?_;simp-dsimp[go_sem,hN];refine ii ?_ ?_<;>intro h0<;>simp at h0<;>simp-dsimp[go_sem,hN,arity,h0];refine ii ?_ ?_<;>intro h1<;>simp at h1<;>simp-dsimp[go_sem,hN,arity,h0,h1];refine ii ?_ ?_<;>intro h2<;>simp at h2<;>simp-dsimp[go_sem,hN,arity]
 .omega
 .omega
theorem xe6(s:ig):APure prog 283 [S s] (Bo (qst s)):=by
 refine kl func283 ntmps283 rfl ae rfl rfl λE h hN hh hu hb=>?_;rcases xra s with rfl|h1
 .simp-dsimp[go_sem,hN,qst];refine xgb .top ac ac ?_;simp-dsimp[go_sem,hN];refine xgb .top ac ac ?_;simp-dsimp[go_sem,hN];refine xgb .top ac ac ?_;simp-dsimp[go_sem,hN,qst]
 .have mz:0<s.size:=aa;have he:¬s=em:=by rintro rfl;simp at h1
  simp-dsimp[go_sem,hN,mz,he];refine kq (xt8 _) ac ?_;simp-dsimp[go_sem,hN];refine kq (jb1 s) ac ?_;simp-dsimp[go_sem,hN];refine kq (xvr s) ac ?_;simp-dsimp[go_sem,hN,qst,he]
theorem jei(op n:Int)(s:ig)(args:List Ex)(d:Nat):APure prog 358 [.agg [I op,I n,S s,.slice (args.map Ex.c)],I d] (I (qd1 op n s args.length d)):=by
 refine kl func358 ntmps358 rfl ae rfl rfl λE h hN hh hu hb=>?_;simp-dsimp[go_sem,hN];refine iv (jkh _) ?_;simp-dsimp[go_sem,hN]
 repeat refine⟨af,?_⟩
 refine ii (λh0=>?_) (λh0=>?_)
 .simp-dsimp[go_sem,hN];simp at h0;rw[qd1,if_pos af]
 have h0':¬(arity op<0\/(op≠1/\n≠0)\/(op≠2/\op≠3/\s≠em)):=af;simp-dsimp[go_sem,hN];refine kq (xe6 s) ac ?_;simp-dsimp[go_sem,hN];refine ii (λh1=>?_) (λh1=>?_)
 .simp-dsimp[go_sem,hN];simp at h1;rw[qd1,if_neg h0',if_pos af]
 have mz:¬(op=3/\qst s=false):=af;simp-dsimp[go_sem,hN]
 repeat refine⟨af,?_⟩
 refine kq (jdw s) ac ?_;simp-dsimp[go_sem,hN]
 repeat refine⟨af,?_⟩
 refine ii (λh2=>?_) (λh2=>?_)
 .simp-dsimp[go_sem,hN];simp at h2;rw[qd1,if_neg h0',if_neg mz,if_pos af]
 have zq:¬((op=1/\n<0)\/(op=2/\pp s=false)\/(args.length:Int)≠arity op):=af;simp-dsimp[go_sem,hN];refine ii ?_ ?_<;>intro h3<;>simp at h3
 .simp-dsimp[go_sem,hN];rw[qd1,if_neg h0',if_neg mz,if_neg zq,if_pos aa]
 .simp-dsimp[go_sem,hN];rw[qd1,if_neg h0',if_neg mz,if_neg zq,if_neg aa]
theorem xsz(e:Ex)(d:Nat):APure prog 349 [.agg [I e.op,I e.n,S e.s,.slice (e.args.map Ex.c)],I d] (I (py e d)):=by
 refine kl func349 ntmps349 rfl ae rfl rfl λE h hN hh hu hb=>?_;simp[go_sem]at hb;simp-dsimp[go_sem,hN];refine iv (jei _ _ _ _ _) ?_;simp-dsimp[go_sem,hN];refine ii ?_ ?_<;>intro h0<;>simp at h0
 .simp-dsimp[go_sem,hN];rw[qyz,if_neg h0]
 have hd:d<=12:=by grind[qd1]
 simp-dsimp[go_sem,hN];refine jz e.args.length (λn=>qk4 (e.args.drop n) (d+1)=qk4 e.args (d+1)) (λn=>⟨[(1,I d),(16,.slice (e.args.map Ex.c)),(17,I e.args.length),(18,I n)],h⟩) ac (Wk.mk ai ac aa ag) ?_;intro n hn hI;have hw:=jj hn hb.2.1;have oh:IntKind.i64.wrap ((d:Int)+1)=((d+1:Nat):Int):=cf;simp-dsimp[go_sem,hN];refine ii ?_ ?_<;>intro hc<;>simp at hc
 .rw[jv hc,qk4]at hI;simp-dsimp[go_sem,hN,hc,oh];have il:SizeOf.sizeOf e.args[n]<SizeOf.sizeOf e:=Ex.arg_lt (dk hc);refine iv (xsz e.args[n] (d+1)) ?_;simp-dsimp[go_sem,hN];refine ii ?_ ?_<;>intro hg<;>simp at hg
  .simp-dsimp[go_sem,hN];rw[qyz e,if_pos h0,<-hI,if_neg hg]
  .simp-dsimp[go_sem,hN,hw];exact⟨hc,br,(Wk.mk ai ac aa ag)⟩
 .rw[cq aa,qk4]at hI;simp-dsimp[go_sem,hN];rw[qyz e,if_pos h0,<-hI]
termination_by SizeOf.sizeOf e
theorem xh6(e:Ex):APure prog 327 [.agg [I e.op,I e.n,S e.s,.slice (e.args.map Ex.c)]] (I (py e 1)):=by
 refine kl func327 ntmps327 rfl ae rfl rfl λE h hN hh hu hb=>?_;simp-dsimp[go_sem,hN];refine iv (xsz e 1) ?_;simp-dsimp[go_sem,hN]
theorem xyi(op:Int):APure prog 325 [I op] (.tuple [.agg (uo op).1.c,Bo (uo op).2]):=by
 refine kl func325 ntmps325 rfl ae rfl rfl λE h hN hh hu hb=>?_;by_cases h1:op=1
 .subst h1;simp-dsimp[go_sem,hN,uo]
 by_cases h2:op=2
 .subst h2;simp-dsimp[go_sem,hN,uo]
 by_cases h3:op=3
 .subst h3;simp-dsimp[go_sem,hN,uo]
 by_cases h4:op=4
 .subst h4;simp-dsimp[go_sem,hN,uo]
 by_cases h7:op=7
 .subst h7;simp-dsimp[go_sem,hN,uo]
 by_cases h5:op=5
 .subst h5;simp-dsimp[go_sem,hN,uo]
 by_cases h6:op=6
 .subst h6;simp-dsimp[go_sem,hN,uo]
 by_cases h8:op=8
 .subst h8;simp-dsimp[go_sem,hN,uo]
 simp-dsimp[go_sem,hN,uo,h1,h2,h3,h4,h5,h6,h7,h8]
theorem xg3(e:Ex):APure prog 348 [.agg e.x] (Bo (qyc e)):=by
 refine kl func348 ntmps348 rfl ae rfl rfl λE h hN hh hu hb=>?_;simp-dsimp[go_sem,hN,qyc]
 try grind
theorem xux(s:St)(u:Uses):APure prog 326 [.agg s.x,.agg u.c] (Bo (qve s u)):=by
 refine kl func326 ntmps326 rfl ae rfl rfl λE h hN hh hu hb=>?_;simp-dsimp[go_sem,hN]
 repeat refine⟨af,?_⟩
 refine kq (xg3 s.a) ac ?_;simp-dsimp[go_sem,hN]
 repeat refine⟨af,?_⟩
 refine kq (xg3 s.b) ac ?_;simp-dsimp[go_sem,hN]
 repeat refine⟨af,?_⟩
 refine ii (λh0=>?_) (λh0=>?_)
 .simp-dsimp[go_sem,hN];simp[qve]at h0|-;grind
 .simp-dsimp[go_sem,hN];refine ii ?_ ?_<;>intro h1<;>simp at h1<;>simp-dsimp[go_sem,hN,h1]
  .grind[qve]
  .refine ii ?_ ?_<;>intro h2<;>simp at h2<;>simp-dsimp[go_sem,hN,h2]
   .grind[qve]
   .grind[qve]
theorem xxa(s:St)(d:Int):APure prog 287 [.agg s.x,I d] (I (qc8 s d)):=by
 refine kl func287 ntmps287 rfl ae rfl rfl λE h hN hh hu hb=>?_;simp-dsimp[go_sem,hN];refine iv (xyi _) ?_;simp-dsimp[go_sem,hN];refine kq (xux s (uo s.op).1) ac ?_;simp-dsimp[go_sem,hN];refine ii (λh0=>?_) (λh0=>?_)
 .simp-dsimp[go_sem,hN];simp at h0;rw[qc8,if_pos af]
 have h0':¬((uo s.op).2=false\/qve s (uo s.op).1=false):=af;simp-dsimp[go_sem,hN];refine kq (xe6 _) ac ?_;simp-dsimp[go_sem,hN];refine ii (λh1=>?_) (λh1=>?_)
 .simp-dsimp[go_sem,hN];simp at h1;rw[qc8,if_neg h0',if_pos af]
 have mz:¬((uo s.op).1.name=true/\qst s.name=false):=af;simp-dsimp[go_sem,hN];have tail:¬((uo s.op).1.a=true/\py s.a 1≠0)->¬((uo s.op).1.b=true/\py s.b 1≠0)->∀x:Int,x=(if 12<d then 2 else 0)->x=qc8 s d:=qiw;have tailb:¬((uo s.op).1.a=true/\py s.a 1≠0)->((uo s.op).1.b=true/\py s.b 1≠0)->py s.b 1=qc8 s d:=qiw;refine ii (λh2=>?_) (λh2=>?_)
 .simp-dsimp[go_sem,hN];refine iv (xh6 s.a) ?_;simp-dsimp[go_sem,hN];refine ii ?_ ?_<;>intro h3<;>simp at h3
  .simp-dsimp[go_sem,hN];rw[qc8,if_neg h0',if_neg mz,if_pos ⟨h2,h3⟩]
  simp-dsimp[go_sem,hN];refine ii (λh4=>?_) (λh4=>?_)
  .simp-dsimp[go_sem,hN];refine iv (xh6 s.b) ?_;simp-dsimp[go_sem,hN];refine ii ?_ ?_<;>intro h5<;>simp at h5
   .simp-dsimp[go_sem,hN];exact tailb af ⟨h4,h5⟩
   simp-dsimp[go_sem,hN];refine ii ?_ ?_<;>intro h6<;>simp at h6<;>simp-dsimp[go_sem,hN]<;>refine tail af af _ aa
  .simp-dsimp[go_sem,hN];refine ii ?_ ?_<;>intro h6<;>simp at h6<;>simp-dsimp[go_sem,hN]<;>refine tail af af _ aa
 .simp-dsimp[go_sem,hN];refine ii (λh4=>?_) (λh4=>?_)
  .simp-dsimp[go_sem,hN];refine iv (xh6 s.b) ?_;simp-dsimp[go_sem,hN];refine ii ?_ ?_<;>intro h5<;>simp at h5
   .simp-dsimp[go_sem,hN];exact tailb af ⟨h4,h5⟩
   simp-dsimp[go_sem,hN];refine ii ?_ ?_<;>intro h6<;>simp at h6<;>simp-dsimp[go_sem,hN]<;>refine tail af af _ aa
  .simp-dsimp[go_sem,hN];refine ii ?_ ?_<;>intro h6<;>simp at h6<;>simp-dsimp[go_sem,hN]<;>refine tail af af _ aa
theorem xw2(x:Param)(h:g9)(i:Nat)(p:Param)(hi:h[i]?=some (.cells p.c)):ACalls prog 323 [.agg x.c,.ptr i 0] h λr h'=>r=.ret (Bo (decide (x.name=p.name)))/\h'=h:=by
 refine mh func323 ntmps323 rfl ae rfl λE hN hh hu hb iq ju=>?_;have ke:i<h.length:=(cm.1 hi).1;have a1:∀l,(h++l)[i]?=some (.cells p.c):=λl=>by rw[co ke];exact hi
 simp-dsimp[go_sem,hN,a1,hu];exact⟨_,.refl _,h,ag,ag,ac,aq,rfl,rfl⟩
theorem jjs(l:List Param)(f:FuncId)(caps:List AV)(q:Param->Bool)(h:g9)(hcn:ko h caps=caps)(hp:∀x:Param,ACalls prog f ([.agg x.c]++caps) h λr h'=>r=.ret (Bo (q x))/\h'=h) :
  ACalls prog 346 [.slice (l.map Param.c),.fn (.func f) [] caps] h λr h'=>r=.ret (I (nv q l))/\h'=h:=by
 refine mh func346 ntmps346 rfl ae rfl λE hN hh hu hb iq ju=>?_;simp[go_sem]at hb;simp-dsimp[go_sem,hN];refine jz l.length (λn=>ph q n (l.drop n)=nv q l) (λn=>⟨[(0,.slice (l.map Param.c)),(1,.fn (.func f) [] caps),(7,I l.length),(8,I n)],h⟩) qgd (Wk.mk ai ac qfx qet) ?_;intro n hn hI;have hw:=jj hn hb.1;simp-dsimp[go_sem,hN];refine ii ?_ ?_<;>intro hc<;>simp at hc
 .rw[jv hc,ph]at hI;simp-dsimp[go_sem,hN,hc,hcn];refine iy (hp l[n]) ?_;rintro r h' ⟨rfl,rfl⟩;simp-dsimp[go_sem,hN];refine ii ?_ ?_<;>intro hg<;>try simp at hg
  .simp-dsimp[go_sem,hN];rw[if_pos hg]at hI;rw[hI];exact⟨_,.refl _,h',ag,ag,ac,aq,rfl,rfl⟩
  .simp-dsimp[go_sem,hN,hw];exact⟨hc,br,Wk.mk ai ac qfx qet⟩
 .rw[cq aa,ph]at hI;simp-dsimp[go_sem,hN,<-hI];exact⟨_,.refl _,h,ag,ag,ac,aq,rfl,rfl⟩
theorem jh3(l:List Param)(f:FuncId)(caps:List AV)(q:Param->Bool)(h:g9)(hcn:ko h caps=caps)(hp:∀x:Param,ACalls prog f ([.agg x.c]++caps) h λr h'=>r=.ret (Bo (q x))/\h'=h) :
  ACalls prog 322 [.slice (l.map Param.c),.fn (.func f) [] caps] h λr h'=>r=.ret (Bo (si q l))/\h'=h:=by
 refine mh func322 ntmps322 rfl ae rfl λE hN hh hu hb iq ju=>?_;simp-dsimp[go_sem,hN];refine iy (jjs l f caps q h hcn hp) ?_;rintro r h' ⟨rfl,rfl⟩;simp-dsimp[go_sem,hN,xhu];exact⟨_,.refl _,h',ag,ag,ac,aq,rfl,rfl⟩
theorem xv3(l:List Param):APure prog 284 [.slice (l.map Param.c)] (I (xad l)):=by
 refine kl func284 ntmps284 rfl ae rfl rfl λE h hN hh hu hb=>?_;unfold xad;simp[go_sem]at hb;simp-dsimp[go_sem,hN];refine ii ?_ ?_<;>intro h0<;>simp at h0
 .simp-dsimp[go_sem,hN];omega
 simp-dsimp[go_sem,hN];rw[if_neg aa];refine jz l.length (λn=>qy3 (l.take n) (l.drop n)=qy3 [] l) (λn=>⟨[(0,.slice (l.map Param.c)),(8,.slice (l.map Param.c)),(9,I l.length),(10,I n)],h⟩) ac (Wk.mk ai ac aa ag) ?_;intro n hn hI;have hw:=jj hn hb.1;simp-dsimp[go_sem,hN];refine ii ?_ ?_<;>intro hc<;>simp at hc
 .rw[jv hc,qy3]at hI;simp-dsimp[go_sem,hN,hc];refine iv (xe6 _) ?_;simp-dsimp[go_sem,hN];refine ii ?_ ?_<;>intro h1<;>simp at h1
  .simp-dsimp[go_sem,hN];simpa[h1]using hI
  simp-dsimp[go_sem,hN];refine ii ?_ ?_<;>intro h2<;>simp at h2
  .simp-dsimp[go_sem,hN];simpa[h1,h2]using hI
  have zq:¬(l[n].ty<1\/3<l[n].ty):=aa;simp-dsimp[go_sem,hN,hn];have ecl:(List.map Param.c l).take n=(l.take n).map Param.c:=ac;rw[ecl];refine iy (jh3 (l.take n) _ _ (λx=>decide (x.name=l[n].name)) _ qfz (λx=>xw2 x _ _ l[n] (by simp[Param.c]))) ?_;rintro r h' ⟨rfl,rfl⟩;simp-dsimp[go_sem,hN];refine ii ?_ ?_<;>intro h3<;>try simp at h3
  .simp-dsimp[go_sem,hN];simpa[h1,zq,h3]using hI
  .simp-dsimp[go_sem,hN,hw];refine⟨hc,?_,(Wk.mk ai ac aa ag)⟩;rw[ec hc];simpa[h1,zq,h3]using hI
 .rw[cq aa,qy3]at hI;simp-dsimp[go_sem,hN,<-hI]
section
variable {σ:Type} {K:σ->Nat} {M:Nat} {w:Nat} {fs fr:FuncId} {cs cr:List AV} {H:Nat->σ->g9} {fS:σ->St->Nat->σ} {fR:σ->Ex->σ} {n0:Nat}
theorem xlv{H:Nat->σ->g9}{n0:Nat}(W:WH prog w fs fr cs cr H fS fR n0 K M)(e:Ex)(left:Nat)(s:σ)(hl:left<=1000) :
  ACalls prog 357 [.ptr w 0,.agg e.x] (H left s) λr h'=>r=.ret (.tuple [])/\h'=H (exW e left) s:=by
 refine mh func357 ntmps357 rfl ae rfl λE hN hh hu hb iq ju=>?_;simp[go_sem]at hb;simp-dsimp[go_sem,hN,W.w',W.look,W.len];refine ii ?_ ?_<;>intro h0<;>simp at h0
 .subst h0;simp-dsimp[go_sem,hN];rw[xg9,if_pos rfl];exact⟨_,.refl _,H 0 s,rfl,ac,ac,hu,rfl,rfl⟩
 have hw1:IntKind.i64.wrap ((left:Int) - 1)=((left - 1:Nat):Int):=cf;simp-dsimp[go_sem,hN,W.w',hw1,W.set',W.loc0];refine td (α:=Nat) e.args.length (λn m=>qtj (e.args.drop n) m=exW e left/\m<=left) (λn m=>⟨[(0,.ptr w 0),(19,.slice (e.args.map Ex.c)),(20,I e.args.length),(21,I n)],H m s++[.cells e.x]⟩) (left - 1) ⟨by rw[xg9,if_neg h0];rfl,aa⟩ (Wk.mk (by simp[hh,W.len]) ac ((W.ext [.cells e.x] ag).und' _ _) qft) ?_;intro n m hn ⟨hI,hm⟩;have hw:=jj hn hb.2.1;simp-dsimp[go_sem,hN];refine ii ?_ ?_<;>intro hc<;>simp at hc
 .rw[jv hc,qtj]at hI;have il:SizeOf.sizeOf e.args[n]<SizeOf.sizeOf e:=Ex.arg_lt (dk hc);simp-dsimp[go_sem,hN,hc,W.loc0,W.loc1,W.set0,W.set1,W.len];refine iy (xlv (W.ext [.cells e.x,.cells e.args[n].x] ag) e.args[n] m s aa) ?_;rintro r h' ⟨rfl,rfl⟩;simp-dsimp[go_sem,hN,hw];refine⟨hc,_,⟨hI,?_⟩,?_⟩
  .grind[xh1]
  .exact(Wk.mk (by simp[hh,W.len]) ag ((W.ext [.cells e.x] ag).und' _ _) qft)
 .rw[cq aa,qtj]at hI;simp-dsimp[go_sem,hN];subst hI;exact⟨_,.refl _,H (exW e left) s,rfl,ac,qik,W.und' _ _,rfl,rfl⟩
termination_by SizeOf.sizeOf e
theorem xrn{H:Nat->σ->g9}{n0:Nat}(W:WH prog w fs fr cs cr H fS fR n0 K M)(e:Ex)(left:Nat)(s:σ)(hl:left<=1000)(hK:K s+left<=M) :
  ACalls prog 347 [.ptr w 0,.agg e.x] (H left s) λr h'=>r=.ret (.tuple [])/\h'=H (ta fR e (left,s)).1 (ta fR e (left,s)).2:=by
 refine mh func347 ntmps347 rfl ae rfl λE hN hh hu hb iq ju=>?_;simp[go_sem]at hb;simp-dsimp[go_sem,hN,W.w',W.look,W.len,W.loc0];refine kq (xg3 e) ac ?_;simp-dsimp[go_sem,hN];refine ii ?_ ?_<;>intro h0<;>simp at h0
 .simp-dsimp[go_sem,hN];rw[ta,if_pos aa];exact⟨_,.refl _,H left s,rfl,ac,ac,hu,rfl,rfl⟩
 simp-dsimp[go_sem,hN];refine jt 5 mixed ae ae ?_;simp-dsimp[go_sem,hN,W.w',W.loc0,W.ncr];refine iy (W.root left s [.cells e.x] e hK h0.1) ?_;rintro r h' ⟨rfl,rfl⟩;simp-dsimp[go_sem,hN,W.loc0];refine iy (xlv (W.ext [.cells e.x] ag) e left (fR s e) hl) ?_;rintro r h' ⟨rfl,rfl⟩;simp-dsimp[go_sem,hN];rw[ta,if_neg af];exact⟨_,.refl _,H (exW e left) (fR s e),rfl,ac,qik,W.und' _ _,rfl,rfl⟩
theorem xf7{H:Nat->σ->g9}{n0:Nat}(W:WH prog w fs fr cs cr H fS fR n0 K M)(l:List St)(d left:Nat)(s:σ)(hl:d+left<=1000)(hK:K s+left<=M) :
  ACalls prog 324 [.ptr w 0,.slice (l.map St.c),I d] (H left s) λr h'=>r=.ret (.tuple [])/\h'=H (qu fS fR l d (left,s)).1 (qu fS fR l d (left,s)).2:=by
 refine mh func324 ntmps324 rfl ae rfl λE hN hh hu hb iq ju=>?_;simp[go_sem]at hb;simp-dsimp[go_sem,hN,W.w',W.look,W.len,W.loc0];refine td (α:=Nat×σ) l.length (λn x=>qu fS fR (l.drop n) d x=qu fS fR l d (left,s)/\x.1<=left/\K x.2+x.1<=M) (λn x=>⟨[(0,.ptr w 0),(2,I d),(8,.slice (l.map St.c)),(9,I l.length),(10,I n)],H x.1 x.2⟩) (left,s) ⟨ac,ac,hK⟩ (Wk.mk af ac (W.und' _ _) qft) ?_;rintro n ⟨m,s⟩ hn ⟨hI,hm,hk⟩;simp only at hm hk;have hw:=jj hn hb.1;simp-dsimp[go_sem,hN];refine ii ?_ ?_<;>intro hc<;>simp at hc
 .rw[jv hc,qu]at hI;have il:SizeOf.sizeOf l[n]<SizeOf.sizeOf l:=gb (dk hc);simp-dsimp[go_sem,hN,hc,W.loc0,W.set0,W.len,W.w'];refine ii ?_ ?_<;>intro h0<;>simp at h0
  .subst h0;simp-dsimp[go_sem,hN];rw[if_pos rfl]at hI;rw[<-hI];exact⟨_,.refl _,H 0 s,rfl,ac,qik,W.und' _ _,rfl,rfl⟩
  have hw1:IntKind.i64.wrap ((m:Int) - 1)=((m - 1:Nat):Int):=cf;rw[if_neg h0]at hI;simp-dsimp[go_sem,hN,hw1,W.loc0,W.w',W.set'];refine jt 6 mixed ae ae ?_;have X:=W.ext [.cells l[n].x] ag;simp-dsimp[go_sem,hN,W.w',W.loc0,W.ncs];refine iy (W.stmt (m - 1) s [.cells l[n].x] l[n] d aa) ?_;rintro r h' ⟨rfl,rfl⟩;have k0:=W.hS s l[n] d;simp-dsimp[go_sem,hN,W.w',W.loc0];refine iy (xrn X l[n].a (m - 1) (fS s l[n] d) aa aa) ?_;rintro r h' ⟨rfl,rfl⟩;have g1:=xd5 fR l[n].a (m - 1,fS s l[n] d);have k1:=xfx fR K W.hR l[n].a (m - 1,fS s l[n] d);simp only at g1 k1;generalize hx1:ta fR l[n].a (m - 1,fS s l[n] d)=x1 at g1 k1|-;simp-dsimp[go_sem,hN,W.w',W.loc0];refine iy (xrn X l[n].b x1.1 x1.2 aa aa) ?_;rintro r h' ⟨rfl,rfl⟩;have g2:=xd5 fR l[n].b x1;have k2:=xfx fR K W.hR l[n].b x1;generalize hx2:ta fR l[n].b x1=x2 at g2 k2|-;have oh:IntKind.i64.wrap ((d:Int)+1)=((d+1:Nat):Int):=cf;have kr:=St.body_le l[n];have nm:=St.els_le l[n];simp-dsimp[go_sem,hN,W.w',W.loc0,oh];refine iy (xf7 X l[n].body (d+1) x2.1 x2.2 aa aa) ?_;rintro r h' ⟨rfl,rfl⟩;have g3:=quf fS fR l[n].body (d+1) x2;have k3:=qwf fS fR K W.hS W.hR l[n].body (d+1) x2;generalize hx3:qu fS fR l[n].body (d+1) x2=x3 at g3 k3|-;simp-dsimp[go_sem,hN,W.w',W.loc0,oh];refine iy (xf7 X l[n].els (d+1) x3.1 x3.2 aa aa) ?_;rintro r h' ⟨rfl,rfl⟩;have g4:=quf fS fR l[n].els (d+1) x3;have k4:=qwf fS fR K W.hS W.hR l[n].els (d+1) x3;simp-dsimp[go_sem,hN,hw];refine⟨hc,(qu fS fR l[n].els (d+1) x3).1,(qu fS fR l[n].els (d+1) x3).2,⟨?_,?_⟩,(Wk.mk (by simp[hh,W.len]) ac (W.und' _ _) qft)⟩
  .grind[jdg]
  .omega
 .rw[cq aa,qu]at hI;simp-dsimp[go_sem,hN];rw[<-hI];exact⟨_,.refl _,H m s,rfl,ac,qik,W.und' _ _,rfl,rfl⟩
termination_by SizeOf.sizeOf l
end
end Go.Proofs.YtolejdhnnchfpaaGreatDoor
