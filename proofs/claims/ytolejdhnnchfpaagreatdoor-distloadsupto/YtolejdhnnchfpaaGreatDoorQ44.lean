/- Part 44 of a proof. -/
import Derived.Shelf.Small.Strs
import Derived.Shelf.Strconv.Itoa4
import Derived.Lib.ItoaLen
import Derived.Test.YtolejdhnnchfpaaGreatDoorQ27
import Derived.Test.YtolejdhnnchfpaaGreatDoorQ43
set_option linter.all false
set_option maxRecDepth 8000
set_option maxHeartbeats 4000000
namespace Go.Proofs.YtolejdhnnchfpaaGreatDoor
open Go Go.Abs Go.Cw Go.Proofs.Tryz
theorem xdi(p:Plc):APure prog 27 [.agg p.c] (Bo (jy p)):=by
 obtain⟨ver,l⟩:=p;refine lz func27 rfl ae ac rfl ?_;intro E h hN hh hu hb;rw[ntmps27]at hN;refine jo _ _ _ ?_;simp[go_sem,Plc.c]at hb;cases l with
 |nil =>
  have hR:jy ⟨ver,[]⟩=false:=by simp[jy]
  rw[hR];simp-dsimp[go_sem,hN,Plc.c]
 |cons x r =>
 have hR:jy ⟨ver,x::r⟩=(decide (0<=ver)&&decide (ver<=1099511627776)&&decide ((x::r).length<=16)&&decide (x.frm=em)&&xg [] (x::r)):=by simp[jy]
 rw[hR];obtain⟨l,hl⟩:∃l,l=x::r:=⟨_,rfl⟩
 have hx:l[0]?=some x:=af;have hpos:0<l.length:=af;rw[<-hl]at hb|-;have w9:l[0]=x:=af;rw[show decide (x.frm=em)=decide (l[0].frm=em)by rw[w9]];simp-dsimp[go_sem,hN,Plc.c,hpos];refine ii ?_ ?_<;>intro hc<;>simp at hc
 .rw[show(decide (0<=ver)&&decide (ver<=1099511627776)&&decide (l.length<=16)&&decide (l[0].frm=em)&&xg [] l)=false from ?_]
  .simp-dsimp[go_sem,hN]
  rw[fu];intro hk;simp only[cw,decide_eq_true_eq]at hk;obtain⟨⟨⟨⟨k1,k2⟩,k3⟩,k4⟩,_⟩:=hk;rcases hc with(((hc|hc)|hc)|hc)|hc
  .omega
  .omega
  .omega
  .omega
  .grind
 obtain⟨⟨⟨⟨k1,k2⟩,k3⟩,k4⟩,k5⟩:=hc;rw[show(decide (0<=ver)&&decide (ver<=1099511627776)&&decide (l.length<=16)&&decide (l[0].frm=em)&&xg [] l)=xg [] l by
  rw[decide_eq_true k1,decide_eq_true k2,decide_eq_true (show l.length<=16 by omega),decide_eq_true (show l[0].frm=em from k5)];rfl]
 simp-dsimp[go_sem,hN,Plc.c,hpos];refine jz l.length (λn=>xg (l.take n) (l.drop n)=xg [] l) (λn=>⟨[(1,.ptr h.length 0),(3,I l.length),(4,I n)],h++[.cells [I ver,.slice (l.map Part.c)]]⟩) ac (Wk.mk ai ac am ag) ?_;intro n hn hI;have hw:=jj hn hb.1;simp-dsimp[go_sem,hN];refine ii ?_ ?_<;>intro hc<;>simp at hc
 rotate_left
 .rw[cq aa,xg]at hI;simp-dsimp[go_sem,hN,<-hI]
 rw[jv hc,xg]at hI;rw[<-ec hc]at hI;obtain⟨X,hX⟩:∃X,l[n]=X:=⟨_,rfl⟩
 rw[hX]at hI;have hwn:=hw;simp-dsimp[go_sem,hN,hc,hw,hX];have yz:∀nx:ig,(n+1<l.length->∃hh:n+1<l.length,nx=l[n+1].frm)->(if decide (((n:Int)+1)=(l.length:Int))then none else some nx)=((l.drop (n+1)).head?.map (·.frm)):=λnx hnx=>by grind[List.head?_drop,cu,fq]
 have lw:∀nx:ig,(n+1<l.length->∃hh:n+1<l.length,nx=l[n+1].frm)->APure prog 50 [.agg X.c,S nx,Bo (decide (((n:Int)+1)=(l.length:Int)))] (Bo (qo5 X ((l.drop (n+1)).head?.map (·.frm)))):=λnx hnx =>
  xb2 (jc0 X nx _) af
 clear yz;obtain⟨M,hM⟩:∃M,qo5 X ((l.drop (n+1)).head?.map (·.frm))=M:=⟨_,rfl⟩
 rw[hM]at hI lw;clear hM;obtain⟨D,hD⟩:∃D,((l.take n).any λy=>decide (y.id=X.id))=D:=⟨_,rfl⟩
 rw[hD]at hI;obtain⟨Z,hZ⟩:∃Z,xg (l.take (n+1)) (l.drop (n+1))=Z:=⟨_,rfl⟩
 rw[hZ]at hI;have hbad:(((X.id<1\/1099511627776<X.id)\/X.node<1)\/16<X.node)\/M=false->(qo6 X.id&&z8 X.node&&M)=false:=λhg=>by
  rw[fu];intro hk;simp only[qo6,z8,cw,decide_eq_true_eq]at hk;obtain⟨⟨⟨a,b⟩,⟨c,d⟩⟩,e⟩:=hk;rcases hg with(((h|h)|h)|h)|h
  .omega
  .omega
  .omega
  .omega
  .grind
 have hgood:(((1<=X.id/\X.id<=1099511627776)/\1<=X.node)/\X.node<=16)/\M=true->(qo6 X.id&&z8 X.node&&M)=true:=λhg=>by grind[qo6,z8]
 have hbadS:∀m (hm:m<l.length),(((((qlu X.frm=false\/js X.frm l[m].frm=true\/X.frm=l[m].frm)\/X.id<1)\/1099511627776<X.id)\/X.node<1)\/16<X.node)\/M=false->(qlu X.frm&&js l[m].frm X.frm&&qo6 X.id&&z8 X.node&&M)=false:=λm hm hg=>by
  rcases hg with((((h|h)|h)|h)|h)|h
  .rcases h with h|h|h
   .rw[h];rfl
   .rw[xax h,qj5];rfl
   .rw[h,qc4,qj5];rfl
  all_goals rw[gh (_&&_&&_),gh (_&&_)];rw[<-gh (qo6 _)]
  all_goals rw[hbad bx,qj5]
 have hgoodS:∀m (hm:m<l.length),(((((qlu X.frm=true/\js X.frm l[m].frm=false/\¬X.frm=l[m].frm)/\1<=X.id)/\X.id<=1099511627776)/\1<=X.node)/\X.node<=16)/\M=true->(qlu X.frm&&js l[m].frm X.frm&&qo6 X.id&&z8 X.node&&M)=true:=λm hm hg=>by grind[qwz,qo6,z8]
 obtain⟨nx,hnx,qvm⟩:∃nx:ig,(n+1<l.length->∃hh:n+1<l.length,nx=l[n+1].frm)/\(¬n+1<l.length->nx=em):=by
  by_cases h1:n+1<l.length
  .simp_all
  .exact⟨em,λh=>(h1 h).elim,λ_=>rfl⟩
 have lw:=lw nx hnx;refine ii ?_ ?_<;>intro h1<;>simp at h1
 .have hn1:n+1<l.length:=aa;obtain⟨_,rfl⟩:=hnx hn1;clear qvm hnx;cases n with
  |zero =>
   have hbx:qlu X.frm=true:=by rw[<-hX,k5];rfl
   simp only[Int.natCast_zero,Int.zero_add,cz]at lw;rw[qjj,xg2,dh]at hI;simp-dsimp[go_sem,hN,hn1,hwn];refine jt 47 mixed ae ae ?_;simp-dsimp[go_sem,hN];refine m6 (xb2 (xbw X.frm) (congrArg Bo hbx)) ac ?_;simp-dsimp[go_sem,hN];refine kq lw ac ?_;simp-dsimp[go_sem,hN];refine ii ?_ ?_<;>intro hg<;>simp at hg
   .have nm:=hbad hg;simp-dsimp[go_sem,hN];rw[<-hI,nm];rfl
   .have qe:=hgood hg;rw[qe,dh]at hI;simp-dsimp[go_sem,hN];refine jz (0) (λk=>((l.take (0)).drop k).any (λy=>decide (y.id=X.id))=D) (λk=>⟨[(1,.ptr h.length 0),(3,I l.length),(4,I ((0:Nat):Int)),(5,.ptr (h.length+1) 0),(7,I k)],h++[.cells [I ver,.slice (l.map Part.c)],.cells X.c]⟩) af mj ?_;intro k hk hJ;have hwk:=jj (n:=k) (L:=l.length) aa hb.1;have hkl:(l.take (0)).length=0:=ac;simp-dsimp[go_sem,hN];refine ii ?_ ?_<;>intro hd<;>simp at hd
    .omega
    .rw[cq aa,qjx]at hJ;subst hJ;rw[qj3,dh]at hI;simp-dsimp[go_sem,hN,hwn];exact⟨hc,qfv,mj⟩
  |succ m =>
   have hm:m<l.length:=aa;have ht3:((m:Int)+1+1).toNat=m+1+1:=aa;have hw3:IntKind.i64.wrap ((m:Int)+1+1)=(m:Int)+1+1:=af;simp only[Int.natCast_add,Int.natCast_one]at lw;have oh:=qq9 (ez hm) hb.1;rw[xj2 hm]at hI;simp-dsimp[go_sem,hN,hn1,hw3,ht3];refine⟨aa,?_⟩;refine jt 47 mixed ae ae ?_;simp-dsimp[go_sem,hN];refine m6 (xbw X.frm) ac ?_;simp-dsimp[go_sem,hN,oh,hm,hw3];refine kq lw ac ?_;simp-dsimp[go_sem,hN];refine ii ?_ ?_<;>intro hg<;>simp at hg
   .have nm:=hbadS m hm hg;simp-dsimp[go_sem,hN];rw[<-hI,nm];rfl
   .have qe:=hgoodS m hm hg;rw[qe,dh]at hI;simp-dsimp[go_sem,hN];refine jz (m+1) (λk=>((l.take (m+1)).drop k).any (λy=>decide (y.id=X.id))=D) (λk=>⟨[(1,.ptr h.length 0),(3,I l.length),(4,I ((m+1:Nat):Int)),(5,.ptr (h.length+1) 0),(7,I k)],h++[.cells [I ver,.slice (l.map Part.c)],.cells X.c]⟩) af mj ?_;intro k hk hJ;have hwk:=jj (n:=k) (L:=l.length) aa hb.1;have hkl:(l.take (m+1)).length=m+1:=af;simp-dsimp[go_sem,hN];refine ii ?_ ?_<;>intro hd<;>simp at hd
    .have hkn:k<m+1:=aa;have hkl2:k<l.length:=aa;rw[jv (show k<(l.take (m+1)).length by omega),qjd,List.getElem_take]at hJ;simp-dsimp[go_sem,hN,hkl2];refine jt 8 mixed ae ae ?_;simp-dsimp[go_sem,hN,hkl2];refine ii ?_ ?_<;>intro he<;>simp at he
     .rw[decide_eq_true he,Bool.true_or]at hJ;subst hJ;simp-dsimp[go_sem,hN];rw[<-hI];simp
     .rw[decide_eq_false he,qi0]at hJ;simp-dsimp[go_sem,hN,hwk];exact⟨aa,hJ,(Wk.mk ai ac am ag)⟩
    .rw[cq aa,qjx]at hJ;subst hJ;rw[qj3,dh]at hI;simp-dsimp[go_sem,hN,hw3];exact⟨hc,qfv,mj⟩
 .have hn1:¬n+1<l.length:=aa;obtain rfl:=qvm hn1;clear qvm hnx;cases n with
  |zero =>
   have hbx:qlu X.frm=true:=by rw[<-hX,k5];rfl
   simp only[Int.natCast_zero,Int.zero_add,cz]at lw;rw[qjj,xg2,dh]at hI;simp-dsimp[go_sem,hN];refine jt 47 mixed ae ae ?_;simp-dsimp[go_sem,hN];refine m6 (xb2 (xbw X.frm) (congrArg Bo hbx)) ac ?_;simp-dsimp[go_sem,hN];refine kq lw ac ?_;simp-dsimp[go_sem,hN];refine ii ?_ ?_<;>intro hg<;>simp at hg
   .have nm:=hbad hg;simp-dsimp[go_sem,hN];rw[<-hI,nm];rfl
   .have qe:=hgood hg;rw[qe,dh]at hI;simp-dsimp[go_sem,hN];refine jz (0) (λk=>((l.take (0)).drop k).any (λy=>decide (y.id=X.id))=D) (λk=>⟨[(1,.ptr h.length 0),(3,I l.length),(4,I ((0:Nat):Int)),(5,.ptr (h.length+1) 0),(7,I k)],h++[.cells [I ver,.slice (l.map Part.c)],.cells X.c]⟩) af mj ?_;intro k hk hJ;have hwk:=jj (n:=k) (L:=l.length) aa hb.1;have hkl:(l.take (0)).length=0:=ac;simp-dsimp[go_sem,hN];refine ii ?_ ?_<;>intro hd<;>simp at hd
    .omega
    .rw[cq aa,qjx]at hJ;subst hJ;rw[qj3,dh]at hI;simp-dsimp[go_sem,hN,hwn];exact⟨hc,qfv,mj⟩
  |succ m =>
   have hm:m<l.length:=aa;have ht3:((m:Int)+1+1).toNat=m+1+1:=aa;have hw3:IntKind.i64.wrap ((m:Int)+1+1)=(m:Int)+1+1:=af;simp only[Int.natCast_add,Int.natCast_one]at lw;have oh:=qq9 (ez hm) hb.1;rw[xj2 hm]at hI;simp-dsimp[go_sem,hN];refine jt 47 mixed ae ae ?_;simp-dsimp[go_sem,hN];refine m6 (xbw X.frm) ac ?_;simp-dsimp[go_sem,hN,oh,hm,hw3];refine kq lw ac ?_;simp-dsimp[go_sem,hN];refine ii ?_ ?_<;>intro hg<;>simp at hg
   .have nm:=hbadS m hm hg;simp-dsimp[go_sem,hN];rw[<-hI,nm];rfl
   .have qe:=hgoodS m hm hg;rw[qe,dh]at hI;simp-dsimp[go_sem,hN];refine jz (m+1) (λk=>((l.take (m+1)).drop k).any (λy=>decide (y.id=X.id))=D) (λk=>⟨[(1,.ptr h.length 0),(3,I l.length),(4,I ((m+1:Nat):Int)),(5,.ptr (h.length+1) 0),(7,I k)],h++[.cells [I ver,.slice (l.map Part.c)],.cells X.c]⟩) af mj ?_;intro k hk hJ;have hwk:=jj (n:=k) (L:=l.length) aa hb.1;have hkl:(l.take (m+1)).length=m+1:=af;simp-dsimp[go_sem,hN];refine ii ?_ ?_<;>intro hd<;>simp at hd
    .have hkn:k<m+1:=aa;have hkl2:k<l.length:=aa;rw[jv (show k<(l.take (m+1)).length by omega),qjd,List.getElem_take]at hJ;simp-dsimp[go_sem,hN,hkl2];refine jt 8 mixed ae ae ?_;simp-dsimp[go_sem,hN,hkl2];refine ii ?_ ?_<;>intro he<;>simp at he
     .rw[decide_eq_true he,Bool.true_or]at hJ;subst hJ;simp-dsimp[go_sem,hN];rw[<-hI];simp
     .rw[decide_eq_false he,qi0]at hJ;simp-dsimp[go_sem,hN,hwk];exact⟨aa,hJ,(Wk.mk ai ac am ag)⟩
    .rw[cq aa,qjx]at hJ;subst hJ;rw[qj3,dh]at hI;simp-dsimp[go_sem,hN,hw3];exact⟨hc,qfv,mj⟩
theorem xzu(p:Plc)(k:ig)(hv:jy p=true):APure prog 51 [.agg p.c,S k] (I (y6 p.parts k (p.parts.length - 1))):=by
 have jm:=qdb hv;obtain⟨ver,l⟩:=p;simp only at jm|-;refine lz func51 rfl ae ac rfl ?_;intro E h hN hh hu hb;rw[ntmps51]at hN;refine jo _ _ _ ?_;simp[go_sem,Plc.c]at hb;simp-dsimp[go_sem,hN,Plc.c];refine iv (xb2 (xdi ⟨ver,l⟩) (congrArg Bo hv)) ?_;simp-dsimp[go_sem,hN];refine jz (l.length - 1) (λ_=>True) (λn=>⟨[(1,S k),(2,.ptr h.length 0),(5,I (y6 l k n)),(6,I ((n+1:Nat):Int))],h++[.cells [I ver,.slice (l.map Part.c)]]⟩) trivial (Wk.mk ai ac am (by simp[go_sem,y6])) ?_;intro n hn _;have hw:IntKind.i64.wrap ((n:Int)+1+1)=(n:Int)+1+1:=qed aa aa;have ht:((n:Int)+1).toNat=n+1:=aa;simp-dsimp[go_sem,hN];refine ii ?_ ?_<;>intro hc<;>simp at hc
 .have hc1:n+1<l.length:=aa;have hs:y6 l k (n+1)=if js k l[n+1].frm=true then y6 l k n else n+1:=by rw[y6,cu hc1]
  simp-dsimp[go_sem,hN,hc1,ht];refine⟨aa,ii (λhd=>?_) (λhd=>?_)⟩<;>simp at hd
  .have hk:js k l[n+1].frm=false:=by
    rcases hd with hd|hd
    .exact xax hd
    .grind[qc4]
   rw[hk,if_neg ac]at hs;simp-dsimp[go_sem,hN,hw];refine⟨aa,?_⟩;rw[hs];exact(Wk.mk ai ac am ag)
  .have hk:js k l[n+1].frm=true:=by rw[qwz,hd.1];simp[Ne.symm hd.2]
   rw[if_pos hk]at hs;simp-dsimp[go_sem,hN,hw];refine⟨aa,?_⟩;rw[hs];exact(Wk.mk ai ac am ag)
 .have th:n=l.length - 1:=aa;subst th;simp-dsimp[go_sem,hN]
theorem xsl(p:Plc)(k:ig)(hv:jy p=true):APure prog 29 [.agg p.c,S k] (I (ly p k)):=by
 have jm:=qdb hv;have hi:=xfw p.parts k (p.parts.length - 1);have u7:=xzu p k hv;unfold ly;rw[if_neg (show ¬jy p=false by simp[hv])];obtain⟨ver,l⟩:=p;simp only at jm hi u7|-;obtain⟨i,hR⟩:∃i,y6 l k (l.length - 1)=i:=⟨_,rfl⟩
 rw[hR]at hi u7|-;have ou:i<l.length:=aa;rw[cu ou];simp only;refine lz func29 rfl ae ac rfl ?_;intro E h hN hh hu hb;rw[ntmps29]at hN;refine jo _ _ _ ?_;simp[go_sem,Plc.c]at hb;simp-dsimp[go_sem,hN,Plc.c];refine iv u7 ?_;have hni:¬(i:Int)<0:=aa;simp-dsimp[go_sem,hN,ou,hni];refine ii ?_ ?_<;>intro hc<;>simp at hc
 .rw[if_pos hc];simp-dsimp[go_sem,hN,ou]
 .rw[if_neg (λg=>by have:=hc g.1;rw[g.2]at this;cases this)];simp-dsimp[go_sem,hN,ou]
theorem qz5{l m:List Int}(hl:l.Pairwise (· < ·))(hm:m.Pairwise (· < ·))(h:∀x,x∈l↔x∈m):l=m:=by
 induction l generalizing m with
 |nil =>
  cases m with
  |nil=>rfl
  |cons y m=>exact((by simpa using(h y).2 ac):False).elim
 |cons x l ih =>
  cases m with
  |nil=>exact(af:False).elim
  |cons y m =>
   obtain⟨l1,l2⟩:=eh.1 hl;obtain⟨m1,m2⟩:=eh.1 hm;have hxy:x=y:=by
    rcases c0.1 ((h x).1 ac)with e|e
    .exact e
    .rcases c0.1 ((h y).2 ac)with e'|e'
     .omega
     .grind
   subst hxy;rw[ih l2 m2 λz=>?_];constructor
   .grind
   .grind
def qt0(l:List Part)(x:Int):Bool:=l.any λy=>decide (y.node=x)||decide (y.dest=x)
theorem xyt{p:Plc}(hv:jy p=true):((List.range 16).map λi:Nat=>(i:Int)+1).filter (qt0 p.parts)=nq p:=by
 refine qz5 ?_ (xba p) λx=>?_
 .simp[List.pairwise_map,List.Pairwise.filter,List.pairwise_lt_range.imp]
 .rw[e9];constructor
  .rintro⟨h1,h2⟩;obtain⟨i,_,rfl⟩:=cy.1 h1;rw[show nq p=qmi (y5 p.parts)from if_pos hv,qsf];obtain⟨y,hy,hq⟩:=gc.1 h2;refine qjt.2 ⟨y,hy,?_⟩;simp only[gu,decide_eq_true_eq]at hq;rcases hq with hq|hq
   .grind
   .grind
  .intro hx;obtain⟨h1,h2⟩:=xq1 x hx;refine⟨cy.2 ⟨(x - 1).toNat,ga.2 aa,aa⟩,?_⟩;rw[show nq p=qmi (y5 p.parts)from if_pos hv,qsf]at hx;obtain⟨y,hy,hq⟩:=qjt.1 hx;refine gc.2 ⟨y,hy,?_⟩;simp only[gu,decide_eq_true_eq];split at hq
   .grind
   .grind
theorem xlu(p:Plc):APure prog 28 [.agg p.c] (.slice ((nq p).map ka)):=by
 have nk:=xdi p;have hnf:=λh=>xyt (p:=p) h;have it:jy p=false->nq p=[]:=λh=>by unfold nq;rw[if_neg bx]
 obtain⟨v,hv⟩:∃v,jy p=v:=⟨_,rfl⟩
 rw[hv]at nk hnf it;obtain⟨ver,l⟩:=p;refine lz func28 rfl ae ac rfl ?_;intro E h hN hh hu hb;rw[ntmps28]at hN;refine jo _ _ _ ?_;simp[go_sem,Plc.c]at hb;simp-dsimp[go_sem,hN,Plc.c];cases v with
 |false =>
  rw[it rfl];refine jz 0 (λ_=>True) (λn=>⟨[(1,.ptr h.length 0),(3,.nils),(4,I 1)],h++[.cells [I ver,.slice (l.map Part.c)]]⟩) trivial (Wk.mk ai ac am ag) ?_;intro n hn _;have:n=0:=aa;subst this;simp-dsimp[go_sem,hN];refine kq nk ac ?_;simp-dsimp[go_sem,hN]
 |true =>
 rw[<-hnf rfl];clear hnf it;obtain⟨F,hF⟩:∃F:Nat->List Int,F=λn=>((List.range n).map λi:Nat=>(i:Int)+1).filter (qt0 l):=⟨_,rfl⟩
 have hF0:F 0=[]:=af;have s9:∀n:Nat,F (n+1)=F n++(if qt0 l ((n:Int)+1)=true then [(n:Int)+1]else []):=λn=>by grind[List.range_succ]
 have uq:∀n,(F n).length<=n:=λn=>by grind
 rw[show((List.range 16).map λi:Nat=>(i:Int)+1).filter (qt0 (Plc.mk ver l).parts)=F 16 by rw[hF]];clear hF;refine jz 16 (λ_=>True) (λn=>⟨[(1,.ptr h.length 0),(3,.own (h.length+1) (F n).length),(4,I ((n+1:Nat):Int))],h++[.cells [I ver,.slice (l.map Part.c)],.arr 3 1 ((F n).map ka)]⟩) trivial ((qq1 E _ 3 3 1 ag).trans qes) ?_;intro n hn _;have hw:IntKind.i64.wrap ((n:Int)+1+1)=(n:Int)+1+1:=qed aa aa;have hFn:=uq n;have pz:=s9 n;simp-dsimp[go_sem,hN];refine kq nk ac ?_;simp-dsimp[go_sem,hN];refine ii ?_ ?_<;>intro hc<;>simp at hc
 .simp-dsimp[go_sem,hN];refine jz l.length (λ_=>True) (λi=>⟨[(1,.ptr h.length 0),(3,.own (h.length+1) (F n).length),(4,I ((n+1:Nat):Int)),(5,Bo (qt0 (l.take i) ((n:Int)+1))),(6,I i)],h++[.cells [I ver,.slice (l.map Part.c)],.arr 3 1 ((F n).map ka)]⟩) trivial (Wk.mk ai ac am (by simp[go_sem,qt0])) ?_;intro i hi _;have hwi:=jj hi hb.1;simp-dsimp[go_sem,hN];refine ii ?_ ?_<;>intro hd<;>simp at hd
  .have hs:qt0 (l.take (i+1)) ((n:Int)+1)=(qt0 (l.take i) ((n:Int)+1)||decide (l[i].node=(n:Int)+1)||decide (l[i].dest=(n:Int)+1)):=by
    unfold qt0;rw[ec hd,List.any_append];simp[Bool.or_assoc]
   simp-dsimp[go_sem,hN,hd,hwi];rw[hs];exact(Wk.mk ai ac am ag)
  .have ou:i=l.length:=aa;subst ou;simp-dsimp[go_sem,hN];refine ii (λhe=>?_) (λhe=>?_)
   .rw[if_pos he]at pz;simp-dsimp[go_sem,hN,hw];refine⟨aa,aa,?_⟩;rw[pz];exact mj
   .rw[if_neg af,ej]at pz;simp-dsimp[go_sem,hN,hw];refine⟨aa,?_⟩;rw[pz];exact(Wk.mk ai ac am ag)
 .have th:n=16:=aa;subst th;simp-dsimp[go_sem,hN]
end Go.Proofs.YtolejdhnnchfpaaGreatDoor
set_option maxRecDepth 4000
set_option maxHeartbeats 1000000
namespace Go.Proofs.YtolejdhnnchfpaaGreatDoor
open Go Go.Abs Go.Cw
end Go.Proofs.YtolejdhnnchfpaaGreatDoor
set_option maxHeartbeats 2000000
namespace Go.Proofs.YtolejdhnnchfpaaGreatDoor
open Go Go.Abs Go.Cw
section
attribute [local go_sem] RM.c
variable (C:Cfg)
end
end Go.Proofs.YtolejdhnnchfpaaGreatDoor
set_option maxRecDepth 8000
namespace Go.Proofs.YtolejdhnnchfpaaGreatDoor
open Go Go.Abs Go.Cw Go.Proofs.Tryz
def bk:ig:=⟨#[107]⟩
def bn:ig:=⟨#[110]⟩
def qm6:Proc:=⟨⟨#[97,100,100]⟩,[⟨bk,2⟩,⟨bn,1⟩],[.mk 3 em 0 (.mk 3 0 bk []) (.mk 4 0 em [.mk 22 0 em [.mk 3 0 bk []],.mk 3 0 bn []]) [] []]⟩
theorem xna{tT:TypeId}{tx:Nat×Nat}{g:Nat}{f:FuncId}{args:List AV}{r:AV}{h:g9}(H:∀h,h[g]?=some (rn tT tx)->ACalls prog f args h λe h'=>e=.ret r/\h'=h)(hg:h[g]?=some (rn tT tx)):qxr prog f args r h:=λh' hs=>H h' (hs g _ rfl hg)
theorem xmc(k:Nat)(h:k<10):okB (UInt8.ofNat (48+k))=true:=by
 have:∀k:Fin 10,okB (UInt8.ofNat (48+k.val))=true:=ba;exact this ⟨k,h⟩
theorem xnh:∀(u:Nat),∀b∈Lib.decDigits u,okB b=true:=by
 intro u
 induction u using Nat.strongRecOn with
 |ind u ih =>
  intro b hb;rw[Lib.decDigits]at hb;split at hb
  .grind[ep,xmc]
  .grind[ep,xmc]
theorem xk9(n:Int)(hn:i64 n):pp (ku n)=true:=by
 have hl:=Lib.itoa_length_le n hn.1 hn.2;unfold pp;rw[cw,decide_eq_true_eq,xcs];refine⟨λb hb=>?_,?_⟩
 .have hb:b∈Lib.itoa n:=by simpa[bl,ku]using hb
  unfold Lib.itoa at hb;split at hb
  .rcases c0.1 hb with rfl|hb
   .decide
   .grind[xnh]
  .grind[xnh]
 .show(((Lib.itoa n).toArray.size:Nat):Int)<=64;rw[qjg];omega
section
variable {tT:TypeId} {tx:Nat×Nat} {g:Nat}
end
end Go.Proofs.YtolejdhnnchfpaaGreatDoor
namespace Go.Proofs.YtolejdhnnchfpaaGreatDoor
open Go Go.Abs Go.Cw
section
theorem qy0{α:Type}{f:α->α->Bool}(hf:∀x,f x x=true):∀l,mm f l l=true
 | []=>rfl
 |x::l=>by simp[mm,hf,qy0 hf l]
theorem jdq(e:Eff):qr1 e e=true:=by
 simp[qr1,qy0 (f:=wn) (λx=>by simp[wn]),qy0 (f:=zu) (λx=>by simp[zu]),qy0 (f:=yd) (λx=>by simp[yd,wn])]
variable {tT:TypeId} {tx:Nat×Nat} {g:Nat}
end
section
variable {tT:TypeId} {tx:Nat×Nat} {g:Nat}
def xlz(p:Proc)(args:List V)(ft:Foot):List AV:=[S p.name,.slice (p.params.map Param.c),.slice (p.body.map St.c),.slice (args.map V.c),Bo ft.all,.slice (ft.reads.map ja),.slice (ft.writes.map ja)]
attribute [local go_sem] xlz
end
section
variable {tT:TypeId} {tx:Nat×Nat} {g:Nat}
attribute [local go_sem] xlz
end
end Go.Proofs.YtolejdhnnchfpaaGreatDoor
set_option maxRecDepth 4000
set_option maxHeartbeats 4000000
namespace Go.Proofs.YtolejdhnnchfpaaGreatDoor
open Go Go.Abs Go.Cw
section
attribute [local go_sem] RM.c
variable (C:Cfg)
end
end Go.Proofs.YtolejdhnnchfpaaGreatDoor
namespace Go.Proofs.YtolejdhnnchfpaaGreatDoor
open Go Go.Abs Go.Cw Go.Proofs.Tryz
section
attribute [local go_sem] RM.c
variable (C:Cfg) (hC:u5 C) (hf:∀n,i64 n->pp (C.fmt n)=true) (hF:∀n,i64 n->APure prog 317 [I n] (S (C.fmt n)))
include hC hf hF
end
end Go.Proofs.YtolejdhnnchfpaaGreatDoor
set_option maxHeartbeats 400000
namespace Go.Proofs.YtolejdhnnchfpaaGreatDoor
open Go Go.Abs Go.Cw Go.Proofs.Tryz
section
attribute [local go_sem] RM.c
variable (C:Cfg) (hC:u5 C) (hf:∀n,i64 n->pp (C.fmt n)=true) (hF:∀n,i64 n->APure prog 317 [I n] (S (C.fmt n)))
include hC hf hF
end
end Go.Proofs.YtolejdhnnchfpaaGreatDoor
set_option maxHeartbeats 4000000
namespace Go.Proofs.YtolejdhnnchfpaaGreatDoor
open Go Go.Abs Go.Cw Go.Proofs.Tryz
section
attribute [local go_sem] RM.c
variable (C:Cfg) (hC:u5 C) (hf:∀n,i64 n->pp (C.fmt n)=true) (hF:∀n,i64 n->APure prog 317 [I n] (S (C.fmt n)))
include hC hf hF
end
section
attribute [local go_sem] RM.c
variable (C:Cfg) (hC:u5 C) (hf:∀n,i64 n->pp (C.fmt n)=true) (hF:∀n,i64 n->APure prog 317 [I n] (S (C.fmt n)))
include hC hf hF
end
end Go.Proofs.YtolejdhnnchfpaaGreatDoor
set_option maxHeartbeats 2000000
namespace Go.Proofs.YtolejdhnnchfpaaGreatDoor
open Go Go.Abs Go.Cw
section
theorem jdc:Ex.z.op=0:=rfl
theorem jej:Ex.z.n=0:=rfl
theorem jbm:Ex.z.s=em:=rfl
theorem xx5:Ex.z.args=[]:=rfl
theorem jgs:St.z.op=0:=rfl
theorem jg5:St.z.name=em:=rfl
theorem ji9:St.z.max=0:=rfl
theorem ji6:St.z.a=Ex.z:=rfl
theorem jb4:St.z.b=Ex.z:=rfl
theorem jcx:St.z.body=[]:=rfl
theorem jk9:St.z.els=[]:=rfl
attribute [local go_sem] Vt.c Vt.ofS Vt.ofE jdc jej jbm xx5 jgs jg5 ji9 ji6 jb4 jcx jk9
end
section
attribute [local go_sem] Vt.c
end
def xq0(q:ig×Int):List AV:=[S q.1,I q.2]
section
attribute [local go_sem] xq0
end
end Go.Proofs.YtolejdhnnchfpaaGreatDoor
set_option maxHeartbeats 4000000
namespace Go.Proofs.YtolejdhnnchfpaaGreatDoor
open Go Go.Abs Go.Cw
section
attribute [local go_sem] xq0
end
end Go.Proofs.YtolejdhnnchfpaaGreatDoor
set_option maxHeartbeats 2000000
namespace Go.Proofs.YtolejdhnnchfpaaGreatDoor
open Go Go.Abs Go.Cw
section
attribute [local go_sem] Cnt.c
end
end Go.Proofs.YtolejdhnnchfpaaGreatDoor
set_option maxHeartbeats 4000000
namespace Go.Proofs.YtolejdhnnchfpaaGreatDoor
open Go Go.Abs Go.Cw
section
attribute [local go_sem] mC
variable {C:Cfg} {tT:TypeId} {tx:Nat×Nat} {g m v o io ir ip:Nat} {K:MQ->g9} {n0:Nat}
end
section
attribute [local go_sem] RM.c
variable {tT:TypeId} {tx:Nat×Nat} {g:Nat}
end
end Go.Proofs.YtolejdhnnchfpaaGreatDoor
set_option maxHeartbeats 2000000
namespace Go.Proofs.YtolejdhnnchfpaaGreatDoor
open Go Go.Abs Go.Cw
end Go.Proofs.YtolejdhnnchfpaaGreatDoor
set_option maxRecDepth 8000
set_option maxHeartbeats 4000000
namespace Go.Proofs.YtolejdhnnchfpaaGreatDoor
open Go Go.Abs Go.Cw Go.Proofs.Tryz
theorem xnw(p:Plc)(l:List Shard):APure prog 11 [.agg p.c,.slice (l.map Shard.c)] (Bo (qmh p l)):=by
 have qm:=qc0 p;have nk:=xdi p;obtain⟨R,hR⟩:∃R,qmh p l=R:=⟨_,rfl⟩
 have jm:=xl8 (p:=p) (l:=l);rw[hR]at jm|-;unfold qmh at hR;obtain⟨v,hv⟩:∃v,jy p=v:=⟨_,rfl⟩
 rw[hv]at hR nk;obtain⟨ns,hns⟩:∃ns,nq p=ns:=⟨_,rfl⟩
 have qv4:=xlu p;rw[hns]at hR jm qm qv4;refine lz func11 rfl ae ac rfl ?_;intro E h hN hh hu hb;rw[ntmps11]at hN;refine jo _ _ _ ?_;simp[go_sem,Plc.c]at hb;simp-dsimp[go_sem,hN,Plc.c];refine iv nk ?_;simp-dsimp[go_sem,hN];cases v with
 |false =>
  simp at hR;subst hR;simp-dsimp[go_sem,hN]
 |true =>
 rw[dh]at hR;simp-dsimp[go_sem,hN];refine iv qv4 ?_;simp-dsimp[go_sem,hN];refine ii ?_ ?_<;>intro h0<;>simp at h0
 .have:R=false:=jm aa;subst this;simp-dsimp[go_sem,hN]
 have h1:l.length=ns.length:=aa;simp-dsimp[go_sem,hN,Plc.c];refine jz l.length (λn=>(decide ((l.drop n).map (·.node)=ns.drop n)&&(l.drop n).all (qmo p))=R) (λn=>⟨[(1,.slice (l.map Shard.c)),(2,.ptr h.length 0),(5,.slice (ns.map ka)),(6,I n)],h++[.cells [I p.ver,.slice (p.parts.map Part.c)]]⟩) af (Wk.mk ai ac am ag) ?_
 intro n hn hI;have hw:=jj hn (show l.length<=68719476736 by omega);simp-dsimp[go_sem,hN];refine ii ?_ ?_<;>intro hc<;>simp at hc
 rotate_left
 .rw[cq aa,cq aa]at hI;simp at hI;subst hI;simp-dsimp[go_sem,hN]
 have nh:n<ns.length:=aa;rw[jv hc,jv nh,xsv]at hI;have rh:l[n].prs.length<=68719476736:=by
  have:=qvw.1 hb.2.2 _ (cy.2 ⟨_,dk hc,rfl⟩);simp[go_sem]at this;exact this.1
 obtain⟨X,hX⟩:∃X,l[n]=X:=⟨_,rfl⟩
 rw[hX]at hI rh;simp-dsimp[go_sem,hN,hc,nh,hX];refine jt 13 mixed ae ae ?_;simp-dsimp[go_sem,hN,hc,nh,hX,ka];refine kq (qcb X.prs) ac ?_;simp-dsimp[go_sem,hN];refine ii ?_ ?_<;>intro hg<;>simp at hg
 .have:(decide (X.node=ns[n])&&qmo p X)=false:=by
   unfold qmo;rcases hg with hg|hg<;>simp[hg]
  rw[this,fl]at hI;subst hI;simp-dsimp[go_sem,hN]
 rw[show qmo p X=(jl X.prs&&X.prs.all λq=>decide (ly p q.key=X.node))from rfl,decide_eq_true hg.1,hg.2,dh,dh]at hI;obtain⟨zp,qe⟩:=hg;rw[qjo]at hI;obtain⟨Z,hZ⟩:∃Z,(decide (List.drop (n+1) (List.map (λx=>x.node) l)=List.drop (n+1) ns)&&(List.drop (n+1) l).all (qmo p))=Z:=⟨_,rfl⟩
 rw[hZ]at hI;simp-dsimp[go_sem,hN];refine jz X.prs.length (λk=>((X.prs.drop k).all λq=>decide (ly p q.key=X.node))=(X.prs.all λq=>decide (ly p q.key=X.node))) (λk=>⟨[(1,.slice (l.map Shard.c)),(2,.ptr h.length 0),(5,.slice (ns.map ka)),(6,I n),(7,I k)],h++[.cells [I p.ver,.slice (p.parts.map Part.c)]]⟩) ac (Wk.mk ai ac am ag) ?_;intro k hk hJ;have hwk:=jj hk rh;simp-dsimp[go_sem,hN,hc,hX];refine ii ?_ ?_<;>intro hd<;>simp at hd
 .rw[jv hd,qi1]at hJ;simp-dsimp[go_sem,hN,hc,hX,nh,hd];refine jt 15 mixed ae ae ?_;simp-dsimp[go_sem,hN,hc,hX,nh,hd,ka];refine m6 (xsl p _ hv) ac ?_;simp-dsimp[go_sem,hN,hc,hX,nh,hd,ka];refine ii ?_ ?_<;>intro he<;>simp at he
  .rw[zp,decide_eq_false he,fl]at hJ;rw[zp,<-hJ,fl]at hI;subst hI;simp-dsimp[go_sem,hN]
  .rw[zp,decide_eq_true he,dh,<-zp]at hJ;simp-dsimp[go_sem,hN,hwk];exact⟨hd,hJ,(Wk.mk ai ac am ag)⟩
 .rw[cq aa,List.all_nil]at hJ;rw[<-hJ,dh]at hI;simp-dsimp[go_sem,hN,hw];exact⟨hc,by rw[hZ];exact hI,(Wk.mk ai ac am ag)⟩
theorem jcy(p:Plc)(s:List Pr):APure prog 15 [.agg p.c,.slice (s.map Pr.c)] (.slice ((m5 p s).map Shard.c)):=by
 have nk:=xdi p;have qm:=qc0 p;have qv4:=xlu p;have it:m5 p s=if (jy p&&jl s)=true then(nq p).map λn=>⟨n,pq p s n⟩else []:=rfl;obtain⟨v,hv⟩:∃v,jy p=v:=⟨_,rfl⟩
 rw[hv]at nk it;rw[it];refine lz func15 rfl ae ac rfl ?_;intro E h hN hh hu hb;rw[ntmps15]at hN;refine jo _ _ _ ?_;simp[go_sem,Plc.c]at hb;simp-dsimp[go_sem,hN,Plc.c];refine iv nk ?_;simp-dsimp[go_sem,hN];refine kq (qcb s) ac ?_;simp-dsimp[go_sem,hN];refine ii ?_ ?_<;>intro h0<;>simp at h0
 .rw[if_neg af];simp-dsimp[go_sem,hN]
 obtain⟨rfl,h1⟩:=h0;rw[if_pos af];simp-dsimp[go_sem,hN,Plc.c];refine iv qv4 ?_;simp-dsimp[go_sem,hN];obtain⟨l,hl⟩:∃l,nq p=l:=⟨_,rfl⟩
 rw[hl]at qm|-;obtain⟨G,hG⟩:∃G:Int->Shard,G=λn=>⟨n,pq p s n⟩:=⟨_,rfl⟩
 rw[show(l.map λn=>(⟨n,pq p s n⟩:Shard))=l.map G by rw[hG]];obtain⟨F,hF⟩:∃F:Nat->List Shard,F=λn=>(l.take n).map G:=⟨_,rfl⟩
 have hF0:F 0=[]:=af;have w6:F l.length=l.map G:=af;have s9:∀n (hn:n<l.length),F (n+1)=F n++[G l[n]]:=λn hn=>by grind[ec]
 have uq:∀n,(F n).length<=16:=λn=>by grind
 rw[<-w6];refine jz l.length (λ_=>True) (λn=>⟨[(1,.slice (s.map Pr.c)),(2,.ptr h.length 0),(5,.slice (l.map ka)),(6,.own (h.length+1) (F n).length),(7,I n)],h++[.cells [I p.ver,.slice (p.parts.map Part.c)],.arr 53 2 ((F n).map Shard.c)]⟩) trivial ((qq1 E _ 6 53 2 ag).trans qes) ?_;intro n hn _;have hw:=jj hn (show l.length<=68719476736 by omega);have yb:=uq n;simp-dsimp[go_sem,hN];refine ii ?_ ?_<;>intro hc<;>simp at hc
 .have hs:=s9 n hc;obtain⟨node,xdg⟩:∃node,l[n]=node:=⟨_,rfl⟩
  rw[xdg]at hs;simp-dsimp[go_sem,hN,hc,ka,xdg];obtain⟨K,hK⟩:∃K:Nat->List Pr,K=λj=>pq p (s.take j) node:=⟨_,rfl⟩
  have hK0:K 0=[]:=qit;have hKe:K s.length=pq p s node:=af;have hK1:∀j (hj:j<s.length),K (j+1)=K j++(if decide (ly p s[j].key=node)=true then [s[j]]else []):=λj hj=>by
   rw[hK];exact xa4 hj
  have hKl:∀j,(K j).length<=j:=λj=>by rw[hK];exact qzr _ _ _
  refine jz s.length (λ_=>True) (λj=>⟨[(1,.slice (s.map Pr.c)),(2,.ptr h.length 0),(5,.slice (l.map ka)),(6,.own (h.length+1) (F n).length),(7,I n),(8,.ptr (h.length+2) 0),(9,I j)],h++[.cells [I p.ver,.slice (p.parts.map Part.c)],.arr 53 2 ((F n).map Shard.c),.cells [I node,.own (h.length+3) (K j).length],.arr 59 4 ((K j).map Pr.c)]⟩) trivial
   ((qol E _ (p:=h.length+2) (j:=1) (t:=59) (sz:=4) (xs:=[I node,.nils]) ac ac).trans (by rw[hK0];exact(Wk.mk ai ac am ag))) ?_
  intro j hj _;have hwj:=jj hj hb.2.1;have hj1:=hKl j;have hK2:=hK1 j;simp-dsimp[go_sem,hN];refine ii ?_ ?_<;>intro hd<;>simp at hd
  .have hK2:=hK2 hd;simp-dsimp[go_sem,hN,hd];refine jt 11 mixed ae ae ?_;simp-dsimp[go_sem,hN,hd,hc,xdg,ka];refine m6 (xsl p _ hv) ac ?_;simp-dsimp[go_sem,hN,hd,hc,xdg,ka];refine ii ?_ ?_<;>intro he<;>simp at he
   .rw[if_pos af]at hK2;simp-dsimp[go_sem,hN];refine jt 7 mixed ae ae ?_;simp-dsimp[go_sem,hN,hwj,hd];refine⟨aa,?_⟩;rw[hK2];exact mj
   .rw[if_neg af,ej]at hK2;simp-dsimp[go_sem,hN,hwj];refine⟨hd,?_⟩;rw[hK2];exact(Wk.mk ai ac am ag)
  .have hjj:j=s.length:=aa;subst hjj;rw[hKe];have hGc:(G node).c=[I node,.slice ((pq p s node).map Pr.c)]:=by rw[hG];rfl
   simp-dsimp[go_sem,hN,hw];refine⟨aa,hc,?_⟩;rw[hs,eg,dj,fc,hGc];exact mj
 .have th:n=l.length:=aa;subst th;simp-dsimp[go_sem,hN]
theorem jck(l:List Shard)(hB:qk0 l<68719476736):APure prog 20 [.slice (l.map Shard.c)] (.tuple [.slice ((qlw l).1.map Pr.c),I (qlw l).2]):=by
 obtain⟨R,hR⟩:∃R,qlw l=R:=⟨_,rfl⟩
 rw[hR];unfold qlw at hR;refine lz func20 rfl ae ac rfl ?_;intro E h hN hh hu hb;rw[ntmps20]at hN;refine jo _ _ _ ?_;simp[go_sem]at hb;simp-dsimp[go_sem,hN];refine jz l.length (λn=>qlk (match n with| 0=>none|m+1=>(l[m]?).map (·.node)) (l.drop n)=qlk none l) (λn=>⟨[(0,.slice (l.map Shard.c)),(4,I n)],h⟩) ac (Wk.mk ai ac aa ag) ?_
 intro n hn hI;have hw:=jj hn hb.1;simp-dsimp[go_sem,hN];refine ii ?_ ?_<;>intro hc<;>simp at hc
 .rw[jv hc]at hI;obtain⟨X,hX⟩:∃X,l[n]=X:=⟨_,rfl⟩
  rw[hX]at hI;cases n with
  |zero =>
   rw[qlk]at hI;simp-dsimp[go_sem,hN,hc,hX];refine jt 19 mixed ae ae ?_;simp-dsimp[go_sem,hN,hc,hX];refine kq (qcb X.prs) ac ?_;simp-dsimp[go_sem,hN];refine ii ?_ ?_<;>intro hg<;>simp at hg
   .rw[hg,qj5,fl]at hI;rw[if_neg af]at hR;subst hR;simp-dsimp[go_sem,hN]
   .rw[hg,fa,dh]at hI;simp-dsimp[go_sem,hN,hw];refine⟨hc,?_,(Wk.mk ai ac aa ag)⟩;simp only[cu hc,hX,e8];simpa using hI
  |succ m =>
   have hm:m<l.length:=aa;have oh:=qq9 (ez hm) hb.1;have hw3:IntKind.i64.wrap ((m:Int)+1+1)=(m:Int)+1+1:=af;have ht3:((m:Int)+1).toNat=m+1:=aa;simp only[cu hm,e8]at hI;rw[qlk]at hI;simp-dsimp[go_sem,hN,hc,hX];refine jt 19 mixed ae ae ?_;simp-dsimp[go_sem,hN,oh,hm,hc,hX,ht3];refine⟨aa,λhh=>⟨hh,aa⟩,?_⟩;refine kq (qcb X.prs) ac ?_;simp-dsimp[go_sem,hN];refine ii ?_ ?_<;>intro hg<;>simp at hg
   .have:(decide (l[m].node<X.node)&&jl X.prs)=false:=by
     rcases hg with hg|hg
     .grind
     .grind
    rw[this,fl]at hI;rw[if_neg af]at hR;subst hR;simp-dsimp[go_sem,hN]
   .rw[decide_eq_true aa,hg.2,dh,dh]at hI;simp-dsimp[go_sem,hN,hw3];refine⟨hc,?_,(Wk.mk ai ac aa ag)⟩;simp only[cu hc,hX,e8];exact hI
 .have th:n=l.length:=aa;subst th;have hgo:qlk none l=true:=by grind[cq,qlk]
  rw[if_pos hgo]at hR;simp-dsimp[go_sem,hN];refine td (α:=List Pr) l.length (λk out=>qr5 (l.drop k) out=R/\out.length<=qk0 (l.take k)) (λk out=>⟨[(0,.slice (l.map Shard.c)),(5,.slice (out.map Pr.c)),(6,I k)],h⟩) [] af ((quy E _).trans (Wk.mk ai ac aa ag)) ?_;intro k out hk hJ;obtain⟨hJ,hlo⟩:=hJ;have hwk:=jj hk hb.1;simp-dsimp[go_sem,hN];refine ii ?_ ?_<;>intro hd<;>simp at hd
  .have h1:=xta hd;have h2:=xne l (k+1);rw[jv hd,qr5]at hJ;obtain⟨X,hX⟩:∃X,l[k]=X:=⟨_,rfl⟩
   rw[hX]at hJ h1;have vp:=xhe out X.prs;simp-dsimp[go_sem,hN,hd,hX];refine iv (xy4 out X.prs aa) ?_;simp-dsimp[go_sem,hN];refine ii ?_ ?_<;>intro he<;>simp at he
   .rw[if_pos he]at hJ;subst hJ;simp-dsimp[go_sem,hN]
   .rw[if_neg (by simp[he])]at hJ;simp-dsimp[go_sem,hN,hwk];exact⟨hd,_,⟨hJ,aa⟩,(Wk.mk ai ac aa ag)⟩
  .rw[cq aa,qr5]at hJ;subst hJ;simp-dsimp[go_sem,hN]
end Go.Proofs.YtolejdhnnchfpaaGreatDoor
