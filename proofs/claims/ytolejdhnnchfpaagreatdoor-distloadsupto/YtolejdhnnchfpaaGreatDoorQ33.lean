/- Part 33 of a proof. -/
import Derived.Test.YtolejdhnnchfpaaGreatDoorProg
import Derived.Shelf.Slices.In.SortNone
import Derived.Shelf.Sort.Plain
import Derived.Shelf.Slices.CompactI
import Derived.Lib.SlicesCompact
import Derived.Test.YtolejdhnnchfpaaGreatDoorQ32
set_option linter.all false
set_option maxRecDepth 4000
set_option maxHeartbeats 2000000
namespace Go.Proofs.YtolejdhnnchfpaaGreatDoor
open Go Go.Abs Go.Cw Go.Proofs.Tryz
def wkS(t:List (Nat×AV)):List (Nat×AV)->Prop
 | []=>True
 |(i,x)::l=>(ji t i).Wk x/\wkS t l
theorem wkS.look{t:List (Nat×AV)}:∀{l:List (Nat×AV)},wkS t l->∀i,(ji t i).Wk (ji l i)
 | [],_,i=>.top _
 |(j,x)::l,h,i=>by
  by_cases hj:j=i
  .subst hj;simp only[ji,beq_self_eq_true,cond_true];exact h.1
  .have:(j == i)=false:=qfs;simp only[ji,this,cond_false];exact wkS.look h.2 i
theorem Wk.slots{E:Ent}{t t1:List (Nat×AV)}{h:g9}(ht:wkS t t1):Wk E ⟨t,h⟩ ⟨t1,h⟩:=λc a w s o=>⟨c,⟨s.defers,s.size,λi=>ht.look i c _ (s.tmps i),s.hs⟩,o⟩
theorem xoo:∀{X h:g9},(∀(i:Nat) (o:AObj),h[i]?=some o->X[i]?=some o)->hwk X h
 |X,[],_=>by cases X<;>trivial
 | [],o::l,k=>by have:=k 0 o rfl;simp at this
 |x::X,o::l,k=>by
  have h0:=k 0 o rfl;simp at h0;subst h0;exact⟨.refl _,xoo λi o' hi=>by have:=k (i+1) o' af;simpa using this⟩
def qsa:AObj->AObj
 | .uarr t sz rows=>.arr t sz rows
 |o=>o
theorem xqq(n0:Nat):∀(l:g9) (k i:Nat),(v8 n0 k l)[i]?=(l[i]?).map λo=>if n0<=k+i then qsa o else o
 | [],k,i=>by simp[v8]
 |o::l,k,0=>by
  by_cases h:n0<=k
  .have h2:Nat.ble n0 k=true:=Nat.ble_eq_true_of_le h;cases o<;>simp[v8,qsa,h,h2]
  .have h2:Nat.ble n0 k=false:=by
    cases hb:Nat.ble n0 k with
    |false=>rfl
    |true=>exact(h (Nat.le_of_ble_eq_true hb)).elim
   cases o<;>simp[v8,qsa,h,h2]
 |o::l,k,i+1=>by
  have:=xqq n0 l (k+1) i;rw[show k+1+i=k+(i+1)by omega]at this;cases o<;>simpa[v8]using this
theorem xnj(n0:Nat):∀(l:g9) (k:Nat),(v8 n0 k l).length=l.length
 | [],_=>rfl
 |o::l,k=>by cases o<;>simp[v8,xnj n0 l (k+1)]
theorem TabH.freeze(E:Ent){B:Nat}{t:List (Nat×AV)}{H:g9}{o g q:Nat}{ks:List Nat}{T:LT}(h:TabH B H o g q ks T) :
  ∃X,Wk E ⟨t,H⟩ ⟨t,X⟩/\X.length=H.length/\X[o]?=some (.cells [.own g T.glob.length,.own q T.qs.length])/\X[g]?=some (.arr 152 2 (T.glob.map LReq.c))/\X[q]?=some (.arr 192 2 (T.qs.map LQ.c)) /\
   (∀i:Nat,i<B->X[i]?=H[i]?)/\∀(i:Nat) (x:List AV),H[i]?=some (AObj.cells x)->X[i]?=some (AObj.cells x):=by
 obtain⟨n1,n2,n3⟩:=h.gne;have d1:=jj9 E B ⟨t,H⟩;have dl:=xnj B H 0;have dg:∀i,(v8 B 0 H)[i]?=(H[i]?).map λob=>if B<=i then qsa ob else ob:=λi=>by simpa using xqq B H 0 i
 have eq1:(v8 B 0 H)[q]?=some (.oarr 192 2 (q9 ks T.qs)):=by rw[dg,h.hq];simp[qsa]
 have eg1:(v8 B 0 H)[g]?=some (.arr 152 2 (T.glob.map LReq.c)):=by rw[dg,h.hg];simp[qsa,h.bg]
 have eo1:(v8 B 0 H)[o]?=some (.cells [.own g T.glob.length,.own q T.qs.length]):=by rw[dg,h.ho];simp[qsa]
 have ek1:∀p,p∈ks.zip T.qs->(v8 B 0 H)[p.1]?=some (.arr 152 2 (p.2.reqs.map LReq.c)):=λp hp=>by
  have hB:=h.bk p.1 (List.of_mem_zip hp).1;rcases h.hk p hp with h3|h3
  .grind[qsa]
  .grind[qsa]
 have hnorm:(q9 ks T.qs).map (ko (v8 B 0 H))=T.qs.map LQ.c:=by
  apply fh;intro n;rw[di,di];rcases ei n T.qs.length with hn|hn
  .have h1:ks[n]?=some (ks[n]'(by rw[h.hkl];exact hn)):=cu _;have h2:T.qs[n]?=some T.qs[n]:=cu _;rw[xhs h1 h2,h2];have h3:=ek1 (_,T.qs[n]) (cv (i:=n) (by rw[List.getElem?_zip_eq_some];exact⟨h1,h2⟩));simp only[e8,ko,AV.norm,h3,eo,if_true];rfl
  .rw[fq hn,fq (by rw[xcc h.hkl];exact hn)];rfl
 have w2:=xzb E ⟨t,v8 B 0 H⟩ eq1 (λr hr=>by
  have:ko (v8 B 0 H) r∈T.qs.map LQ.c:=af;obtain⟨x,_,hx⟩:=cy.1 this;rw[<-hx];rfl)
 rw[hnorm]at w2;have hql:q<(v8 B 0 H).length:=(cm.1 eq1).1;have w3:=qdt E ⟨t,(v8 B 0 H).set q (.uarr 192 2 (T.qs.map LQ.c))⟩ (i:=q) (du hql);refine⟨_,(d1.trans w2).trans w3,by simp[dl],?_,?_,?_,λi hi=>?_,λi x hx=>?_⟩
 .grind
 .grind
 .grind
 .have h5:=h.bq;simp only[qi2];rw[ct aa,dg];simp[Nat.not_le.2 hi]
 .grind[qi2,ct,qsa]
theorem xqc{k:ig}{r:LReq}:∀(l:List LQ),(nc k r l).length<=l.length+1
 | []=>by simp[nc]
 |q::l=>by
  rw[nc];split
  .simp[xqc]
  .grind
theorem xsy{k:ig}{r:LReq}{M:Nat}:∀{l:List LQ},(∀x∈l,x.reqs.length<=M)->∀x∈nc k r l,x.reqs.length<=M+1
 | [],_,x,hx=>by simp[nc]at hx;subst hx;simp
 |q::l,h,x,hx=>by
  rw[nc]at hx;split at hx
  .rcases c0.1 hx with rfl|hx
   .grind
   .exact xsy (λy hy=>h y ck) x hx
  .grind
theorem xq6:∀(k:Nat) (qs:List LQ),vv k qs=q9 ((List.range qs.length).map λj=>k+2 * j) qs
 |k,[]=>by simp[vv,q9]
 |k,q::l=>by
  rw[vv,xq6 (k+2) l,dy,List.range_succ_eq_map];simp only[dj,qi3,q9,List.zipWith_cons_cons];congr 2;apply qjr;intro j _;simp only[Function.comp];omega
theorem xqz(tR:TypeId):∀(qs:List LQ) (j:Nat) (h:j<qs.length),(qld tR qs)[2 * j+1]?=some (.uarr tR 2 (qs[j].reqs.map LReq.c))
 |q::l,0,_=>rfl
 |q::l,j+1,h=>by
  have:=xqz tR l j af;rw[show 2 * (j+1)+1=(2 * j+1)+1+1 by omega];simpa[qld]using this
theorem xs9{g:List LReq}:∀{k:Option ig} {l:List LQ},qo2 g k l=true->(∀p,k=some p->∀x∈lu l,js p x=true)/\kg (lu l)
 |k,[],_=>⟨λ_ _ x hx=>by simp at hx,List.Pairwise.nil⟩
 |k,q::l,h=>by
  rw[qo2,cw,cw,cw,cw,cw]at h;obtain⟨i1,i2⟩:=xs9 h.2;have h3:=i1 q.key rfl;refine⟨λp hp x hx=>?_,eh.2 ⟨h3,i2⟩⟩;subst hp;have h4:js p q.key=true:=h.1.1.1.1.2;rcases c0.1 hx with rfl|hx
  .exact h4
  .grind[qdc]
theorem TabH.setG{B:Nat}{H:g9}{o g q:Nat}{ks:List Nat}{T:LT}(h:TabH B H o g q ks T)(G:List LReq):TabH B ((H.set g (.uarr 152 2 (G.map LReq.c))).set o (.cells [.own g G.length,.own q T.qs.length])) o g q ks ⟨G,T.qs⟩:=by
 obtain⟨n1,n2,n3⟩:=h.gne;have ho:=(cm.1 h.ho).1;have hg:=(cm.1 h.hg).1;have key:∀{i:Nat} {x:AObj},i≠o->i≠g->H[i]?=some x->((H.set g (.uarr 152 2 (G.map LReq.c))).set o (.cells [.own g G.length,.own q T.qs.length]))[i]?=some x:=λ{i x} h1 h2 h3=>by rw[ct (Ne.symm h1),ct (Ne.symm h2)];exact h3
 refine⟨du af,?_,key n3 (Ne.symm n2) h.hq,h.hkl,λp hp=>?_,h.nd,h.gk,h.bo,h.bg,h.bq,h.bk⟩
 .grind
 .have h3:=h.kne (List.of_mem_zip hp).1;exact(h.hk p hp).imp (key h3.2.1 h3.2.2.2) (key h3.2.1 h3.2.2.2)
theorem xzw{h:g9}{gl:List LReq}{qs:List LQ}{c1 c2 c3:AObj}{H:g9}(hH:h++[c1,c2,c3]++([AObj.none,.none,.uarr 152 2 (gl.map LReq.c),.none,.oarr 192 2 (vv (h.length+9) qs)]++qld 152 qs)=H) :
  TabH (h.length+3) (H++[.cells [.own (h.length+5) gl.length,.own (h.length+7) qs.length]]) H.length (h.length+5) (h.length+7) ((List.range qs.length).map λj=>h.length+9+2 * j) ⟨gl,qs⟩:=by
 have hl:H.length=h.length+8+2 * qs.length:=qh4;have e5:H[h.length+5]?=some (.uarr 152 2 (gl.map LReq.c)):=af;have e7:H[h.length+7]?=some (.oarr 192 2 (vv (h.length+9) qs)):=by rw[<-hH];simp
 have ek:∀(j:Nat) (hj:j<qs.length),H[h.length+9+2 * j]?=some (.uarr 152 2 (qs[j].reqs.map LReq.c)):=λj hj=>by
  rw[<-hH,cx az,cx az];rw[<-xqz 152 qs j hj];congr 1;simp;omega
 refine⟨ac,by rw[co aa];exact e5,by rw[co aa,e7,xq6],ac,λp hp=>?_,?_,?_,aa,aa,aa,?_⟩
 .obtain⟨j,hj⟩:=da hp;rw[List.getElem?_zip_eq_some]at hj;obtain⟨j1,j2⟩:=hj;have il:j<qs.length:=(cm.1 j2).1;rw[di,List.getElem?_range il]at j1;have e1:p.1=h.length+9+2 * j:=(gy j1).symm;have e2:p.2=qs[j]:=af;refine .inl ?_;rw[e1,e2,co aa];exact ek j il
 .grind[List.pairwise_lt_range.imp]
 .grind
 .grind
abbrev xif(n:Int)(l:List LQ)(k:ig):List LQ:=nc k ⟨n,true⟩ l
abbrev xi0(n:Int)(w:List ig)(l:List LQ)(k:ig):List LQ:=if l8 w k=true then l else nc k ⟨n,false⟩ l
structure Adds(B:Nat)(X1:g9)(o g q:Nat)(gl:List LReq)(M:Nat)(X:g9)(ks:List Nat)(qs:List LQ):Prop where
 tab:TabH B X o g q ks ⟨gl,qs⟩
 len:X1.length<=X.length
 fr:∀i,i<B->X[i]?=X1[i]?
 asc:kg (lu qs)
 ql:qs.length<=M
 rl:∀x∈qs,x.reqs.length<=M
theorem xcj{P:Program}{E:Ent}{x y:Code}{Q:AExit->Env->Prop}{e e1:Env}(h:wpC P E x (AExit.then (λe'=>Wk E e' e1) Q) e)(h2:AWp P E y Q e1):AWp P E (.seq x y) Q e :=
 tg ((jo _ _ _ h).mono λz e' hz=>by
  cases z with
  |normal=>exact AWp.wk hz h2
  |_=>exact hz)
theorem xh0{P:Program}{E:Ent}{x y:Code}{Q:AExit->Env->Prop}{e:Env}{ι:Type}(J:ι->Prop)(K:ι->Env)(h:wpC P E x (AExit.then (λe'=>∃i,J i/\Wk E e' (K i)) Q) e)(h2:∀i,J i->AWp P E y Q (K i)):AWp P E (.seq x y) Q e :=
 tg ((jo _ _ _ h).mono λz e' hz=>by
  cases z with
  |normal=>obtain⟨i,hi,hw⟩:=hz;exact AWp.wk hw (h2 i hi)
  |_=>exact hz)
theorem qva{k:ig}{r:LReq}:∀{l:List LQ} {x:ig},x∈lu (nc k r l)->x=k\/x∈lu l
 | [],x,h=>by simp[nc]at h;exact .inl h
 |q::l,x,h=>by
  rw[nc]at h;split at h
  .simp only[dj,c0]at h|-;rcases h with h|h
   .grind
   .exact(qva h).imp id .inr
  .grind
theorem qwy{k:ig}{r:LReq}:∀{l:List LQ},kg (lu l)->kg (lu (nc k r l))
 | [],_=>by simp[nc,kg]
 |q::l,h=>by
  simp only[dj]at h;obtain⟨h1,h2⟩:=eh.1 h;rw[nc];split
  .rename_i h3;simp only[dj];refine eh.2 ⟨λx hx=>?_,qwy h2⟩;rcases qva hx with rfl|hx
   .exact h3
   .grind
  .rename_i h3;split
   .grind
   .rename_i h4;have h5:js k q.key=true:=by
     rcases qjn (js k q.key)with g|g
     .exact g
     .exact(h4 (qvh h3 af)).elim
    simp only[dj];refine eh.2 ⟨λx hx=>?_,eh.2 ⟨h1,h2⟩⟩;rcases c0.1 hx with rfl|hx
    .exact h5
    .grind[qdc]
theorem Adds.add{B:Nat}{X1 X X':g9}{o g q:Nat}{gl:List LReq}{M:Nat}{ks:List Nat}{qs:List LQ}{k:ig}{r:LReq}(h:Adds B X1 o g q gl M X ks qs)(h1:∃ks',TabH B X' o g q ks' ⟨gl,nc k r qs⟩)(h2:X.length<=X'.length)(h3:∀i,i<B->X'[i]?=X[i]?):∃ks',Adds B X1 o g q gl (M+1) X' ks' (nc k r qs):=by
 obtain⟨ks',h1⟩:=h1;exact⟨ks',h1,dv h.len h2,λi hi=>(h3 i hi).trans (h.fr i hi),qwy h.asc,dv (xqc qs) (by have:=h.ql;omega),xsy h.rl⟩
theorem Adds.up{B:Nat}{X1 X:g9}{o g q:Nat}{gl:List LReq}{M:Nat}{ks:List Nat}{qs:List LQ}(h:Adds B X1 o g q gl M X ks qs):Adds B X1 o g q gl (M+1) X ks qs :=
 ⟨h.tab,h.len,h.fr,h.asc,by have:=h.ql;omega,λx hx=>by have:=h.rl x hx;omega⟩
theorem xh8{α β:Type}(f:β->α->β)(b:β){l:List α}{n:Nat}(h:n<l.length):(l.take (n+1)).foldl f b=f ((l.take n).foldl f b) l[n]:=by
 rw[ec h,List.foldl_append];rfl
theorem xu3(gl:List LReq)(qs:List LQ)(n:Int)(f:Foot)(M:Nat)(hv:qlz ⟨gl,qs⟩=true)(hf:qa f.all f.reads f.writes=true)(h0:0<=n)(u7:nv (wx n) gl = -1)(yz:∀(m:Nat) (hm:m<gl.length),m+1=gl.length->gl[m].t<=n)
  (v7:gl.length<68719476736) (hq:qs.length<=M) (hr:∀x∈qs,x.reqs.length<=M) (hM:M+f.writes.length+f.reads.length<68719476736) :
  APure prog 57 [.agg (LT.c ⟨gl,qs⟩),I n,.agg f.c] (.tuple [.agg (LT.c ⟨gl++[⟨n,f.all⟩],qp7 n f qs⟩),I 0]):=by
 refine lz func57 rfl ae ac rfl ?_;intro E h hN hh hu hb;rw[ntmps57]at hN;simp[go_sem,LT.c]at hb;have qyp:kg (lu qs):=by
  unfold qlz at hv;rw[cw]at hv;exact(xs9 hv.2).2
 refine tg (qr6 ?_);simp[go_sem,hN,LT.c,Foot.c];refine xcj (e1:=⟨[(1,I n),(3,P0 h.length),(5,P0 (h.length+1)),(6,P0 (h.length+2)),(7,I 0)],h++[.cells [.slice (gl.map LReq.c),.slice (qs.map LQ.c)],.cells [Bo f.all,.slice (f.reads.map ja),.slice (f.writes.map ja)],.cells [.nils,.nils]]⟩) ?_ ?_
 .simp-dsimp[go_sem,hN];refine iv (xds ⟨gl,qs⟩) ?_;simp-dsimp[go_sem,hN,hv];refine kq (qzd f) ac ?_;simp-dsimp[go_sem,hN,hf,h0];refine ii ?_ ?_<;>intro hc<;>simp at hc
  .omega
  simp-dsimp[go_sem,hN];refine iv (qwm gl n) ?_;rw[u7];rcases Nat.eq_zero_or_pos gl.length with hg0|hg0
  .simp-dsimp[go_sem,hN,hg0];exact(Wk.mk ai ac am ag)
  .obtain⟨m,hm⟩:∃m,gl.length=m+1:=⟨gl.length - 1,aa⟩
   have hw:IntKind.i64.wrap (m:Int)=(m:Int):=qed aa aa;have se:m<gl.length:=aa;have hl:=yz m se hm.symm;have hgm:gl[m]?=some gl[m]:=cu se;simp-dsimp[go_sem,hN,hm,hw,hgm,LReq.c];refine ii ?_ ?_<;>intro hc<;>simp at hc
   .omega
   simp-dsimp[go_sem,hN];exact(Wk.mk ai ac am ag)
 clear hb;obtain⟨H,hH⟩:∃H,h++[.cells [.slice (gl.map LReq.c),.slice (qs.map LQ.c)],.cells [Bo f.all,.slice (f.reads.map ja),.slice (f.writes.map ja)],.cells [.nils,.nils]]++([AObj.none,.none,.uarr 152 2 (gl.map LReq.c),.none,.oarr 192 2 (vv (h.length+9) qs)]++qld 152 qs)=H:=⟨_,rfl⟩
 have hT0:=xzw hH;refine xcj (e1:=⟨[(1,I n),(5,P0 (h.length+1)),(6,P0 (h.length+2)),(7,I 0),(8,P0 H.length)],H++[.cells [.own (h.length+5) gl.length,.own (h.length+7) qs.length]]⟩) ?_ ?_
 .simp-dsimp[go_sem,hN];refine iy (xy6 ⟨gl,qs⟩ _) ?_;rintro r h' ⟨rfl,rfl⟩;simp only[c7,dy,ed];rw[hH];simp-dsimp[go_sem,hN];exact Wk.slots bi
 have hHl:H.length=h.length+8+2 * qs.length:=qh4;have fr0:∀i,i<h.length+3->(H++[AObj.cells [.own (h.length+5) gl.length,.own (h.length+7) qs.length]])[i]?=(h++[AObj.cells [.slice (gl.map LReq.c),.slice (qs.map LQ.c)],.cells [Bo f.all,.slice (f.reads.map ja),.slice (f.writes.map ja)],.cells [.nils,.nils]])[i]?:=λi hi=>by grind
 obtain⟨Y,hY⟩:∃Y,H++[AObj.cells [.own (h.length+5) gl.length,.own (h.length+7) qs.length]]=Y:=⟨_,rfl⟩
 rw[hY]at hT0 fr0|-;have hYl:Y.length=H.length+1:=af;have y1:Y[h.length+1]?=some (AObj.cells [Bo f.all,.slice (f.reads.map ja),.slice (f.writes.map ja)]):=af;have yo:=hT0.ho;have yg:=hT0.hg;have hT1:=hT0.setG (gl++[⟨n,f.all⟩]);refine xcj (e1:=⟨[(1,I n),(5,P0 (h.length+1)),(6,P0 (h.length+2)),(7,I 0),(8,P0 H.length)],(Y.set (h.length+5) (.uarr 152 2 ((gl++[(⟨n,f.all⟩:LReq)]).map LReq.c))).set H.length (.cells [.own (h.length+5) (gl++[(⟨n,f.all⟩:LReq)]).length,.own (h.length+7) qs.length])⟩) ?_ ?_
 .have yo2:∀Z,(Y.set (h.length+5) Z)[H.length]?=some (.cells [.own (h.length+5) gl.length,.own (h.length+7) qs.length]):=λZ=>by rw[ct aa];exact yo
  simp-dsimp[go_sem,hN,yo,yg,y1,yo2,v7,LReq.c];exact⟨aa,Wk.slots bi⟩
 obtain⟨X1,hX1⟩:∃X1,(Y.set (h.length+5) (.uarr 152 2 ((gl++[(⟨n,f.all⟩:LReq)]).map LReq.c))).set H.length (.cells [.own (h.length+5) (gl++[(⟨n,f.all⟩:LReq)]).length,.own (h.length+7) qs.length])=X1:=⟨_,rfl⟩
 simp only[hX1]at hT1|-;have fr1:∀i,i<h.length+3->X1[i]?=Y[i]?:=λi hi=>by rw[<-hX1,ct aa,ct aa]
 have x1:X1[h.length+1]?=some (AObj.cells [Bo f.all,.slice (f.reads.map ja),.slice (f.writes.map ja)]):=af;have hX1l:X1.length=H.length+1:=af;clear hX1 hT0 yo yg;have hA0:Adds (h.length+3) X1 H.length (h.length+5) (h.length+7) (gl++[⟨n,f.all⟩]) (M+0) X1 ((List.range qs.length).map λj=>h.length+9+2 * j) qs:=⟨hT1,cn _,λ_ _=>rfl,qyp,hq,hr⟩
 have hwl:∀(X:g9),(∀i,i<h.length+3->X[i]?=X1[i]?)->X[h.length+1]?=some (AObj.cells [Bo f.all,.slice (f.reads.map ja),.slice (f.writes.map ja)]):=λX hX=>by rw[hX _ aa];exact x1
 refine xh0 (ι:=g9×List Nat) (λa=>Adds (h.length+3) X1 H.length (h.length+5) (h.length+7) (gl++[⟨n,f.all⟩]) (M+f.writes.length) a.1 a.2 (f.writes.foldl (xif n) qs))
  (λa=>⟨[(1,I n),(5,P0 (h.length+1)),(6,P0 (h.length+2)),(7,I 0),(8,P0 H.length)],a.1⟩) ?_ ?_
 .simp-dsimp[go_sem,hN,x1];refine td (α:=g9×List Nat) f.writes.length (λm a=>Adds (h.length+3) X1 H.length (h.length+5) (h.length+7) (gl++[⟨n,f.all⟩]) (M+m) a.1 a.2 ((f.writes.take m).foldl (xif n) qs))
   (λm a=>⟨[(1,I n),(5,P0 (h.length+1)),(6,P0 (h.length+2)),(7,I 0),(8,P0 H.length),(65,.slice (f.writes.map ja)),(66,I f.writes.length),(67,I m)],a.1⟩) (X1,(List.range qs.length).map λj=>h.length+9+2 * j) af (Wk.slots bi) ?_
  rintro m ⟨X,ks⟩ hm hI;dsimp only at hI;have hw:=jj hm aa;simp-dsimp[go_sem,hN];refine ii ?_ ?_<;>intro hc<;>simp at hc
  .have h1:=hI.ql;simp-dsimp[go_sem,hN,hc];refine iy (xs3 (r:=⟨n,true⟩) hI.tab _ hI.asc af (λx hx=>by have:=hI.rl x hx;omega)) ?_;rintro r h' ⟨rfl,h2,h3,h4⟩;simp-dsimp[go_sem,hN,hw];obtain⟨ks',h5⟩:=hI.add h2 h3 h4;refine⟨hc,h',⟨ks',?_⟩,Wk.slots bi⟩;rw[xh8 _ _ hc];exact h5
  .have hme:m=f.writes.length:=aa;subst hme;simp-dsimp[go_sem,hN];refine⟨X,⟨ks,?_⟩,Wk.slots bi⟩;simpa using hI
 rintro⟨X2,ks2⟩ hA2;dsimp only at hA2|-;have x2:=hwl X2 hA2.fr;refine xh0 (ι:=g9×List Nat) (λa=>Adds (h.length+3) X1 H.length (h.length+5) (h.length+7) (gl++[⟨n,f.all⟩]) (M+f.writes.length+f.reads.length) a.1 a.2 (qp7 n f qs))
  (λa=>⟨[(5,P0 (h.length+1)),(6,P0 (h.length+2)),(7,I 0),(8,P0 H.length)],a.1⟩) ?_ ?_
 .simp-dsimp[go_sem,hN,x2];refine td (α:=g9×List Nat) f.reads.length (λm a=>Adds (h.length+3) X1 H.length (h.length+5) (h.length+7) (gl++[⟨n,f.all⟩]) (M+f.writes.length+m) a.1 a.2 ((f.reads.take m).foldl (xi0 n f.writes) (f.writes.foldl (xif n) qs)))
   (λm a=>⟨[(1,I n),(5,P0 (h.length+1)),(6,P0 (h.length+2)),(7,I 0),(8,P0 H.length),(77,.slice (f.reads.map ja)),(78,I f.reads.length),(79,I m)],a.1⟩) (X2,ks2) af (Wk.slots bi) ?_
  rintro m ⟨X,ks⟩ hm hI;dsimp only at hI;have hw:=jj hm aa;have x3:=hwl X hI.fr;simp-dsimp[go_sem,hN];refine ii ?_ ?_<;>intro hc<;>simp at hc
  .have h1:=hI.ql;simp-dsimp[go_sem,hN,hc,x3];refine iv (xey f.writes _) ?_;simp-dsimp[go_sem,hN];refine ii ?_ ?_<;>intro hk<;>simp at hk
   .simp-dsimp[go_sem,hN];refine iy (xs3 (r:=⟨n,false⟩) hI.tab _ hI.asc af (λx hx=>by have:=hI.rl x hx;omega)) ?_;rintro r h' ⟨rfl,h2,h3,h4⟩;simp-dsimp[go_sem,hN,hw];obtain⟨ks',h5⟩:=hI.add h2 h3 h4;refine⟨hc,h',⟨ks',?_⟩,Wk.slots bi⟩;rw[xh8 _ _ hc];simp only[xi0,hk,qje,if_false];exact h5
   .simp-dsimp[go_sem,hN,hw];refine⟨hc,X,⟨ks,?_⟩,Wk.slots bi⟩;rw[xh8 _ _ hc];simp only[xi0,hk,if_true];exact hI.up
  .have hme:m=f.reads.length:=aa;subst hme;simp-dsimp[go_sem,hN];refine⟨X,⟨ks,?_⟩,Wk.slots bi⟩;simpa[qp7]using hI
 rintro⟨X3,ks3⟩ hA3;dsimp only at hA3|-;obtain⟨Z,z1,z2,z3,z4,z5,z6,z7⟩:=hA3.tab.freeze E (t:=[(5,P0 (h.length+1)),(6,P0 (h.length+2)),(7,I 0),(8,P0 H.length)]);have x4:Z[h.length+2]?=some (.cells [.nils,.nils]):=by rw[z6 _ aa,hA3.fr _ aa,fr1 _ aa,fr0 _ aa];simp
 refine AWp.wk z1 (jo _ _ _ ?_);simp-dsimp[go_sem,hN,z3,x4];obtain⟨W,hW⟩:∃W,Z.set (h.length+2) (AObj.cells [AV.own (h.length+5) (gl.length+1),AV.own (h.length+7) (qp7 n f qs).length])=W:=⟨_,rfl⟩
 have hz:=(cm.1 x4).1;have w2:W[h.length+2]?=some (AObj.cells [AV.own (h.length+5) (gl.length+1),AV.own (h.length+7) (qp7 n f qs).length]):=af;have w5:W[h.length+5]?=some (AObj.arr 152 2 ((gl++[(⟨n,f.all⟩:LReq)]).map LReq.c)):=af;have w7:W[h.length+7]?=some (AObj.arr 192 2 ((qp7 n f qs).map LQ.c)):=af;have wl:W.length=X3.length:=af;have wi:∀i,i<h.length->W[i]?=h[i]?:=λi hi=>by
  rw[<-hW,ct aa,z6 _ aa,hA3.fr _ aa,fr1 _ aa,fr0 _ aa,co hi]
 rw[hW];simp[go_sem,w2,w5,w7,LT.c];exact xoo λi o hi=>by rw[wi i (cm.1 hi).1];exact hi
theorem xmq{H:g9}(k:Nat)(iw:List Int)(q:List LReq)(t:Int)(hk:H[k]?=some (.uarr 3 1 (iw.map ka)))(hl:iw.length+q.length<68719476736) :
  ACalls prog 136 [.own k iw.length,.slice (q.map LReq.c),I t] H λr H'=>r=.ret (.own k (iw++yi t q).length)/\H'=H.set k (.uarr 3 1 ((iw++yi t q).map ka)):=by
 refine re func136 rfl ae (by simp[ntmps136]) ?_;intro E hN hh hu hb iq ju;rw[ntmps136]at hN;simp[go_sem]at hb;have hkl:=(cm.1 hk).1;refine jo _ _ _ ?_;simp-dsimp[go_sem,hN];refine iv (qwm q t) ?_;have fin:∀L,hUnder (H.set k (.uarr 3 1 (List.map ka L))).length (H.set k (.uarr 3 1 (List.map ka L)))=true:=λL=>by
  rw[qb1];intro ob hob;obtain⟨i,hi⟩:=da hob;by_cases e:i=k
  .subst e;rw[du hkl]at hi;cases hi;rfl
  .grind[ct,qb1]
 rcases xlc t q with⟨h1,h2⟩|⟨m,hm,h1,h2⟩
 .rw[h2,ej];rw[show nv (wx t) q = -1 from h1];have qlg:H.set k (.uarr 3 1 (iw.map ka))=H:=by
   apply fh;intro i;by_cases e:i=k
   .grind
   .grind
  rw[qlg];simp-dsimp[go_sem,hN];refine jz 0 (λ_=>True) (λn=>⟨[(0,.own k iw.length),(13,I 0),(14,I n)],H⟩) trivial (Wk.slots bi) ?_;intro n hn _;have:n=0:=aa;subst this;simp-dsimp[go_sem,hN];refine⟨_,.refl _,H,?_,hwk.refl _,cn _,hu,?_,rfl⟩
  .grind[AV.under]
  .rw[hk]
 .rw[h2];rw[show nv (wx t) q=(m:Int)from h1];have hmx:(if 0<m then(m:Int)else 0)=(m:Int):=aa;simp-dsimp[go_sem,hN,hmx];obtain⟨F,hF⟩:∃F:Nat->List Int,F=λn=>iw++((q.take n).filter λx=>x.w||q[m].w).map (·.t):=⟨_,rfl⟩
  have hFm:∀n,n<=m->(F n).length<=iw.length+n:=λn hn=>by grind
  have s9:∀n (hn:n<q.length),F (n+1)=F n++if q[n].w||q[m].w then [q[n].t]else []:=λn hn=>by
   rw[hF];simp only[ec hn,List.filter_append,eg,dn];congr 2;rcases h:q[n].w||q[m].w with _|_<;>simp[h]
  have qlg:H.set k (.uarr 3 1 (List.map ka (F 0)))=H:=by
   apply fh;intro i;by_cases e:i=k
   .grind
   .grind
  have hF0:(F 0).length=iw.length:=af;refine jz m (λ_=>True) (λn=>⟨[(0,.own k (F n).length),(1,.slice (q.map LReq.c)),(7,I m),(13,I m),(14,I n)],H.set k (.uarr 3 1 ((F n).map ka))⟩) trivial (by rw[qlg,hF0];exact Wk.slots (by simp[wkS,go_sem,hmx])) ?_;intro n hn _;have hw:=jj hn aa;have hset2:∀A B,(H.set k A).set k B=H.set k B:=λA B=>by simp
  simp-dsimp[go_sem,hN];refine ii ?_ ?_<;>intro hc<;>simp at hc
  .have hnq:n<q.length:=aa;have h9:=hFm n hn;simp-dsimp[go_sem,hN,hnq,hm,LReq.c];refine ii ?_ ?_<;>intro hg<;>try simp at hg
   .simp-dsimp[go_sem,hN,hw,hnq,hkl,LReq.c];have pz:F (n+1)=F n++[q[n].t]:=af;refine⟨aa,hc,?_⟩;rw[pz,eg,c7];exact Wk.slots bi
   .simp-dsimp[go_sem,hN,hw];have pz:F (n+1)=F n:=af;refine⟨hc,?_⟩;rw[pz];exact Wk.slots bi
  .have:n=m:=aa;subst this;simp-dsimp[go_sem,hN];have hFn:F n=iw++((q.take n).filter λx=>x.w||q[n].w).map (·.t):=by rw[hF]
   have yz:=fin (F n);refine⟨_,.refl _,H.set k (.uarr 3 1 (List.map ka (F n))),?_,?_,?_,yz,?_,?_⟩
   all_goals first
    |exact hwk.refl _
    |(simp[hkl,AV.under,hFn])
end Go.Proofs.YtolejdhnnchfpaaGreatDoor
set_option maxRecDepth 8000
namespace Go.Proofs.YtolejdhnnchfpaaGreatDoor
open Go Go.Abs Go.Shelf Go.Lib Go.Proofs.Tryz
def xtg:Ren:=⟨fun
 | 125=>76| 128=>120| 129=>121| 189=>38| 215=>165| 216=>117| 257=>75| 294=>111| 295=>112
 | 296=>113| 297=>114| 298=>115| 299=>116| 300=>118| 301=>119| 328=>160
 | 329=>161| 330=>162| 331=>163| 332=>164| 343=>194|x=>x,
 λ| 0=>0| 3=>3| 4=>4| 5=>5| 9=>9| 28=>34| 46=>138| 51=>183| 53=>185| 131=>180| 182=>174| 183=>175| 218=>214| 222=>218| 228=>247| 229=>248|x=>x,λx=>x⟩
theorem je2:Lays.n189 prog xtg:=by
 constructor<;>first|exact λ_=>by kernel_rfl|kernel_rfl
def xqn:Ren:=⟨λ| 20=>39|x=>x,λ| 0=>0| 3=>3| 4=>4| 22=>34|x=>x,λx=>x⟩
theorem jc3:Lays2.n20 prog xqn:=by
 constructor<;>first|exact λ_=>by kernel_rfl|kernel_rfl
end Go.Proofs.YtolejdhnnchfpaaGreatDoor
set_option maxRecDepth 4000
namespace Go.Proofs.YtolejdhnnchfpaaGreatDoor
open Go Go.Abs Go.Cw Go.Proofs.Tryz
abbrev qs8(l:List Int):List Int:=l.mergeSort λx y=>decide (x<=y)
theorem xkd{h:g9}{i:Nat}{l:List Int}(hi:h[i]?=some (.uarr 3 1 (l.map ka))) :
  ACalls prog 38 [.own i l.length] h λr h'=>r=.ret (.tuple [])/\h'=h.set i (.uarr 3 1 ((qs8 l).map ka)) :=
 jf4 (ρ:=xtg) je2 ⟨Tryz.f38,func38,ae,ae⟩ hi
theorem xig{h:g9}{i n:Nat}{l:List Int}(hn:n=l.length)(hi:h[i]?=some (.uarr 3 1 (l.map ka))) :
  ACalls prog 39 [.own i n] h λr h'=>r=.ret (.slice ((Lib.compact l).map ka))/\h'=h.set i (.arr 3 1 ((Lib.compact l++List.replicate (l.length - (Lib.compact l).length) 0).map ka)):=by
 subst hn;exact jb9 (ρ:=xqn) jc3 ⟨Tryz.f39,func39,ae,ae⟩ hi
def xko(T:LT)(t:Int):List Int:=Lib.compact (qs8 (ql9 T t))
theorem xz8(T:LT)(t:Int)(hl:T.glob.length+qz T.qs<68719476736):APure prog 95 [.agg T.c,I t] (.slice ((xko T t).map ka)):=by
 refine lz func95 rfl ae ac rfl ?_;intro E h hN hh hu hb;rw[ntmps95]at hN;simp[go_sem,LT.c]at hb;refine tg (qr6 ?_);simp[go_sem,hN,LT.c];refine tg (qeq [_,_,_] _ ?_);simp[go_sem,hN];intro c a w s k;refine xq4 s k rfl rfl aa rfl ag (x:=.own (h.length+1) (yi t T.glob).length) (h2:=h++[.cells [.slice (T.glob.map LReq.c),.slice (T.qs.map LQ.c)],.uarr 3 1 ((yi t T.glob).map ka)]) ?_ ?_
 .have hc:=xl7 3 1 (h:=h++[.cells [.slice (T.glob.map LReq.c),.slice (T.qs.map LQ.c)]]) (xmq (h++[AObj.cells [.slice (T.glob.map LReq.c),.slice (T.qs.map LQ.c)]]).length [] T.glob t (H:=h++[.cells [.slice (T.glob.map LReq.c),.slice (T.qs.map LQ.c)]]++[.uarr 3 1 []]) ac az);simpa[go_sem]using hc
 intro c' a' w' s' k';refine qca _ [_,_,_,_] _ rfl ?_ c' a' w' s' k';simp[go_sem,hN];apply jo;simp-dsimp[go_sem,hN];obtain⟨F,hF⟩:∃F:Nat->List Int,F=λn=>yi t T.glob++(T.qs.take n).flatMap λq=>yi t q.reqs:=⟨_,rfl⟩
 have hF0:yi t T.glob=F 0:=af;have s9:∀n (hn:n<T.qs.length),F n++yi t T.qs[n].reqs=F (n+1):=λn hn=>by grind[ec,dn]
 have uq:∀n,(F n).length<=T.glob.length+qz (T.qs.take n):=λn=>by
  rw[hF];have h1:=xm2 t T.glob;have h2:=xmx t (T.qs.take n);simp only[c7];omega
 have w6:F T.qs.length=ql9 T t:=by grind[ql9]
 have hs3:∀X Y Z W:AObj,(h++[X,Y,Z]).set (h.length+1) W=h++[X,W,Z]:=λX Y Z W=>by simp
 have tk:∀X Y W:AObj,(h++[X,Y]).set (h.length+1) W=h++[X,W]:=λX Y W=>by simp
 rw[hF0];clear s' k' s k;refine jz T.qs.length (λ_=>True) (λn=>⟨[(1,I t),(5,.own (h.length+1) (F n).length),(13,.slice (T.qs.map LQ.c)),(14,I T.qs.length),(15,I n)],h++[.cells [.slice (T.glob.map LReq.c),.slice (T.qs.map LQ.c)],.uarr 3 1 ((F n).map ka)]⟩) trivial (Wk.slots bi) ?_;intro n hn _;have hw:=jj hn hb.2.1;simp-dsimp[go_sem,hN];refine ii ?_ ?_<;>intro hc<;>simp at hc
 .simp-dsimp[go_sem,hN,hc,LQ.c];have h1:=uq n;have h2:=jfe hc;refine iy (xmq (h.length+1) (F n) T.qs[n].reqs t ac aa) ?_;rintro r h' ⟨rfl,rfl⟩;rw[s9 n hc];simp-dsimp[go_sem,hN,hw,hs3];exact⟨hc,mj⟩
 .have it:n=T.qs.length:=aa;subst it;simp-dsimp[go_sem,hN];rw[w6];refine iy (xkd (l:=ql9 T t) (h:=h++[.cells [.slice (T.glob.map LReq.c),.slice (T.qs.map LQ.c)],.uarr 3 1 ((ql9 T t).map ka)]) (i:=h.length+1) ac) ?_;rintro r h' ⟨rfl,rfl⟩;simp-dsimp[go_sem,hN,tk];refine iy (xig (n:=(ql9 T t).length) (l:=qs8 (ql9 T t)) (h:=h++[.cells [.slice (T.glob.map LReq.c),.slice (T.qs.map LQ.c)],.uarr 3 1 ((qs8 (ql9 T t)).map ka)]) (i:=h.length+1) ac ac) ?_;rintro r h' ⟨rfl,rfl⟩;simp-dsimp[go_sem,hN,tk];rfl
end Go.Proofs.YtolejdhnnchfpaaGreatDoor
set_option maxRecDepth 8000
set_option maxHeartbeats 4000000
namespace Go.Proofs.YtolejdhnnchfpaaGreatDoor
open Go Go.Abs Go.Cw Go.Proofs.Tryz
theorem xwe(l:List Part):(y5 l).length<=2 * l.length:=by
 induction l with
 |nil=>simp[y5]
 |cons x l ih =>
  unfold y5 at ih|-;rw[List.flatMap_cons,c7,dy];have:(if x.dest≠0 then [x.node,x.dest]else [x.node]).length<=2:=af;omega
theorem qzj(p:Plc):APure prog 23 [.agg p.c] (.slice ((nq p).map ka)):=by
 obtain⟨ver,l⟩:=p;have nk:=qv0 ⟨ver,l⟩;have it:nq ⟨ver,l⟩=if jy ⟨ver,l⟩=true then qmi (y5 l)else []:=rfl;have jm:=λh=>qdb (p:=⟨ver,l⟩) h;obtain⟨v,hv⟩:∃v,jy ⟨ver,l⟩=v:=⟨_,rfl⟩
 rw[hv]at nk it jm;rw[it];refine lz func23 rfl ae ac rfl ?_;intro E h hN hh hu hb;rw[ntmps23]at hN;refine jo _ _ _ ?_;simp[go_sem,Plc.c]at hb;simp-dsimp[go_sem,hN,Plc.c];refine iv nk ?_;simp-dsimp[go_sem,hN];cases v with
 |false=>simp-dsimp[go_sem,hN]
 |true =>
 have jm:=(jm rfl).2;simp only at jm;rw[if_pos rfl];simp-dsimp[go_sem,hN];obtain⟨F,hF⟩:∃F:Nat->List Int,F=λn=>y5 (l.take n):=⟨_,rfl⟩
 have hF0:F 0=[]:=qiu;have w6:F l.length=y5 l:=af;have s9:∀n (hn:n<l.length),F (n+1)=F n++(if l[n].dest≠0 then [l[n].node,l[n].dest]else [l[n].node]):=λn hn=>by grind[y5,ec]
 have uq:∀n,(F n).length<=32:=λn=>by grind[ey,Nat.min_le_right,xwe]
 refine jz l.length (λ_=>True) (λn=>⟨[(1,.ptr h.length 0),(3,.own (h.length+1) (F n).length),(10,.slice (l.map Part.c)),(11,I l.length),(12,I n)],h++[.cells [I ver,.slice (l.map Part.c)],.uarr 3 1 ((F n).map ka)]⟩) trivial ((jf3 E _ 3 3 1 ag).trans qes) ?_;intro n hn _;have hw:=jj hn hb.1;have yb:=uq n;simp-dsimp[go_sem,hN];refine ii ?_ ?_<;>intro hc<;>simp at hc
 .have hs:=s9 n hc;simp-dsimp[go_sem,hN,hc];refine⟨aa,ii (λhd=>?_) (λhd=>?_)⟩<;>simp at hd
  .rw[if_pos hd]at hs;simp-dsimp[go_sem,hN,hw];refine⟨aa,hc,?_⟩;rw[hs];exact mj
  .rw[if_neg aa]at hs;simp-dsimp[go_sem,hN,hw];refine⟨hc,?_⟩;rw[hs];exact mj
 .have th:n=l.length:=aa;subst th;simp-dsimp[go_sem,hN];rw[w6];have tk:∀X Y W:AObj,(h++[X,Y]).set (h.length+1) W=h++[X,W]:=λX Y W=>by simp
  refine iy (xkd (l:=y5 l) (h:=h++[.cells [I ver,.slice (l.map Part.c)],.uarr 3 1 ((y5 l).map ka)]) (i:=h.length+1) ac) ?_;rintro r h' ⟨rfl,rfl⟩;simp-dsimp[go_sem,hN,tk];refine iy (xig (n:=(y5 l).length) (l:=qs8 (y5 l)) (h:=h++[.cells [I ver,.slice (l.map Part.c)],.uarr 3 1 ((qs8 (y5 l)).map ka)]) (i:=h.length+1) ac ac) ?_;rintro r h' ⟨rfl,rfl⟩;simp-dsimp[go_sem,hN,tk];rfl
theorem xa4{α:Type}{l:List α}{q:α->Bool}{n:Nat}(hc:n<l.length):(l.take (n+1)).filter q=(l.take n).filter q++(if q l[n]=true then [l[n]]else []):=qe6
theorem qzr{α:Type}(l:List α)(q:α->Bool)(n:Nat):((l.take n).filter q).length<=n:=af
theorem xka(p:Plc)(l:List Pr)(node:Int)(hv:jy p=true):APure prog 26 [.agg p.c,.slice (l.map Pr.c),I node] (.slice ((pq p l node).map Pr.c)):=by
 refine lz func26 rfl ae ac rfl ?_;intro E h hN hh hu hb;rw[ntmps26]at hN;refine jo _ _ _ ?_;simp[go_sem,Plc.c]at hb;simp-dsimp[go_sem,hN,Plc.c];obtain⟨F,hF⟩:∃F:Nat->List Pr,F=λn=>pq p (l.take n) node:=⟨_,rfl⟩
 have hF0:F 0=[]:=qiu;have w6:F l.length=pq p l node:=af;have s9:∀n (hn:n<l.length),F (n+1)=F n++(if decide (ly p l[n].key=node)=true then [l[n]]else []):=λn hn=>by
  rw[hF];exact xa4 hn
 have uq:∀n,(F n).length<=n:=λn=>by rw[hF];exact qzr _ _ _
 refine jz l.length (λ_=>True) (λn=>⟨[(2,I node),(3,.ptr h.length 0),(7,.own (h.length+1) (F n).length),(10,.slice (l.map Pr.c)),(11,I l.length),(12,I n)],h++[.cells [I p.ver,.slice (p.parts.map Part.c)],.arr 59 4 ((F n).map Pr.c)]⟩) trivial ((qq1 E _ 7 59 4 ag).trans qes) ?_;intro n hn _;have hw:=jj hn hb.2.1;have yb:=uq n;simp-dsimp[go_sem,hN];refine ii ?_ ?_<;>intro hc<;>simp at hc
 .have hs:=s9 n hc;simp-dsimp[go_sem,hN,hc];refine iv (xfg p _ hv) ?_;simp-dsimp[go_sem,hN];refine ii ?_ ?_<;>intro hd<;>simp at hd
  .rw[if_pos af]at hs;simp-dsimp[go_sem,hN,hw];refine⟨aa,hc,?_⟩;rw[hs];exact mj
  .rw[if_neg af,ej]at hs;simp-dsimp[go_sem,hN,hw];refine⟨hc,?_⟩;rw[hs];exact mj
 .have th:n=l.length:=aa;subst th;simp-dsimp[go_sem,hN];rw[w6]
  done
theorem xl6(p:Plc)(l:List ig)(node:Int)(hv:jy p=true):APure prog 94 [.agg p.c,.slice (l.map ja),I node] (.slice ((ql6 p l node).map ja)):=by
 refine lz func94 rfl ae ac rfl ?_;intro E h hN hh hu hb;rw[ntmps94]at hN;refine jo _ _ _ ?_;simp[go_sem,Plc.c]at hb;simp-dsimp[go_sem,hN,Plc.c];obtain⟨F,hF⟩:∃F:Nat->List ig,F=λn=>ql6 p (l.take n) node:=⟨_,rfl⟩
 have hF0:F 0=[]:=qiu;have w6:F l.length=ql6 p l node:=af;have s9:∀n (hn:n<l.length),F (n+1)=F n++(if decide (ly p l[n]=node)=true then [l[n]]else []):=λn hn=>by
  rw[hF];exact xa4 hn
 have uq:∀n,(F n).length<=n:=λn=>by rw[hF];exact qzr _ _ _
 refine jz l.length (λ_=>True) (λn=>⟨[(2,I node),(3,.ptr h.length 0),(7,.own (h.length+1) (F n).length),(10,.slice (l.map ja)),(11,I l.length),(12,I n)],h++[.cells [I p.ver,.slice (p.parts.map Part.c)],.arr 9 1 ((F n).map ja)]⟩) trivial ((qq1 E _ 7 9 1 ag).trans qes) ?_;intro n hn _;have hw:=jj hn hb.2.1;have yb:=uq n;simp-dsimp[go_sem,hN];refine ii ?_ ?_<;>intro hc<;>simp at hc
 .have hs:=s9 n hc;simp-dsimp[go_sem,hN,hc];refine iv (xfg p _ hv) ?_;simp-dsimp[go_sem,hN];refine ii ?_ ?_<;>intro hd<;>simp at hd
  .rw[if_pos af]at hs;simp-dsimp[go_sem,hN,hw];refine⟨aa,hc,?_⟩;rw[hs];exact mj
  .rw[if_neg af,ej]at hs;simp-dsimp[go_sem,hN,hw];refine⟨hc,?_⟩;rw[hs];exact(Wk.mk ai ac am ag)
 .have th:n=l.length:=aa;subst th;simp-dsimp[go_sem,hN];rw[w6]
  done
theorem xe7(p:Plc)(f:Foot):APure prog 84 [.agg p.c,.agg f.c] (Bo (pf p f)):=by
 refine lz func84 rfl ae ac rfl ?_;intro E h hN hh hu hb;rw[ntmps84]at hN;refine jo _ _ _ ?_;simp-dsimp[go_sem,hN,Plc.c,Foot.c];refine iv (qv0 p) ?_;simp-dsimp[go_sem,hN];refine kq (qzd f) ac ?_;simp-dsimp[go_sem,hN,pf,fOk]
end Go.Proofs.YtolejdhnnchfpaaGreatDoor
