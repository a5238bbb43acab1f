/- Part 17 of a proof. -/
import Derived.Shelf.Small.Strs
import Derived.Shelf.Strconv.Itoa4
import Derived.Lib.ItoaLen
import Derived.Test.YtolejdhnnchfpaaGreatDoorR11
import Derived.Test.YtolejdhnnchfpaaGreatDoorR16
set_option linter.all false
set_option maxRecDepth 100000
set_option maxHeartbeats 4000000
namespace Go.Proofs.YtolejdhnnchfpaaGreatDoor
open Go Go.Abs Go.Cw Go.Proofs.Tryz
section
variable {nb:List Proc} {p:Plc} {A:List Txn} {H H':mz} {l:List Shard} {choices:List Int} {s:List Pr}
variable {tT:TypeId} {tx:Nat×Nat} {g:Nat}
def Z5{hN o q ef tr:Nat}{ks:List NK}{σ:Sy}{P:Nat}(my:SysH hN nb p A H o q ef tr ks σ)(hp:qw p=true)(hB:BatchIn pw nb A)(hs:q8 s)(L:ph s=true)(h':SyOk pw nb p A s σ)(D:BdOk p A P (256 * A.length) σ)
  (hg:H[g]?=some (fZ tT tx)) (hgB:g<hN) (hT:A.length<=1048576) (hP:P<=3500000000) {a:Cw.Act} (ha:a∈eB p A σ) :
  ∃f x y,oE o a=[.fn (.func f) [P0 o] [],I x,I y]/\ACalls prog f [P0 o,I x,I y] H λr Y=>r=.ret (.tuple [])/\(∃tr2,SysH hN nb p A Y o q ef tr2 ks (we pw nb p A σ a))/\(∀j,j<hN->Y[j]?=H[j]?):=by
 have xc:σ.nds.length<=16:=by have:=uR p;rw[<-h'.nodes,ka]at this;exact this
 have htr:=D.tr;rcases Bn.1 ha with h|h|h
 .obtain⟨i,t,hi,ht,hc,rfl⟩:=Dz.1 h;have th:=ij hi;have N:=h'.nd _ th;obtain⟨t1,t2⟩:=D.tb _ th;obtain⟨q1,q2⟩:=J2 N.tb t2;refine⟨_,_,_,rfl,(YX my hi ht fc J (N.valid hp) J J (λx hx=>by have:=q2 x hx;omega)).mono λr Y G=>⟨G.1,⟨_,G.2.1⟩,G.2.2⟩⟩
 .obtain⟨i,hi,rfl⟩:=Do.1 h;refine⟨_,_,0,rfl,(UM (j:=0) my hi xc J (λx hx=>by have:=D.ib x hx;omega))⟩
 obtain⟨i,t,hi,ht,hc,rfl⟩:=EI.1 h;have th:=ij hi;have N:=h'.nd _ th;obtain⟨t1,t2⟩:=D.tb _ th;obtain⟨q1,q2⟩:=J2 N.tb t2;obtain⟨c1,c2,c3⟩:=B6.1 hc;have BL:=(Kv hp hB hs L h' th ht c3).2.1;have pj:∀p',lB nb A[t]=some p'->RunIn pw p' A[t].args (cN t σ.nds[i].node σ.nds[i].inbox).1:=λp' h=>OW hB (ij ht) BL h;have aN:=Ot pj;have zg:∀m∈aX t σ.nds[i].node σ.nds[i].inbox,m.prs.length<=P:=λm hm=>D.mi _ th m (VH hm);have hmn:=Wh h' th t;have h16:=jl P (show(aX t σ.nds[i].node σ.nds[i].inbox).length+1<=17 by omega);have h16':=jl P hmn;have qn:=ZH zg;have hpr:=D.pr _ th;refine⟨_,_,_,rfl,(UA my hp hg hgB hi ht fe (by rw[h'.el];exact ht) c1 zg J J pj J (N.valid hp) J J (λx hx=>by have:=q2 x hx;omega)).mono λr Y G=>⟨G.1,⟨_,G.2.1⟩,G.2.2⟩⟩
def R6(hg:H[g]?=some (fZ tT tx))(hB:BatchIn pw nb A)(G:∀x∈l,q8 x.prs)(hT:A.length<=1048576)(hP:∀x∈l,x.prs.length<=3000000000) :
  ACalls prog 16 [.slice (nb.map Proc.c),.agg p.c,.slice (l.map Shard.c),.slice (A.map Txn.c),.slice (choices.map qe)] H λr Y=>r=.ret (.tuple [.slice ((yP pw nb p l A choices).1.map Shard.c),.slice ((yP pw nb p l A choices).2.map Eff.c)])/\Y=H:=by
 obtain⟨R,hR⟩:=Qaj (yP pw nb p l A choices)
 rw[hR];unfold yP at hR;have ug:=LW p l;obtain⟨v,hv⟩:=Qaj (mJ p l)
 rw[hv]at ug hR;refine s8 func16 ntmps16 λE B hh Q hb nl qb=>?_;simp-dsimp[go_sem,B,Plc.c];refine nc ug ?_;refine nf (λhc=>?_) (λhc=>?_)
 .subst hc;rw[gg Z]at hR;subst hR;refine M ?_;exact⟨_,.refl _,H,af,af,Z,ak,rfl,rfl⟩
 subst hc;rw[gh rfl]at hR;obtain⟨O,U,h3⟩:=El.1 hv;have hll:l.length<=16:=by grind[ka,uR]
 have bF:=λX=>VV (nb:=nb) (p:=p) (A:=A) (H:=X) (l:=l) O hll hT;obtain⟨s,g1,g2,g3,g4⟩:=JK hv;have hs:=g3 G;obtain⟨H1,lW⟩:=Qaj (H++[AObj.cells [I p.ver,.slice (p.parts.map Part.c)]])
 have aG:H1.length=H.length+1:=W;have rU:g<H.length:=(gn.1 hg).1;have iK:H1[g]?=some (fZ tT tx):=W;simp-dsimp[go_sem,B,Plc.c];rw[lW];refine se (bF _) ?_;rintro r X ⟨o,q,ef,tr,ks,rfl,S0,hX0⟩;rw[aG]at S0 hX0;have Y0:=M8 (fmt:=pw) (nb:=nb) O hB hs g2 U (λx hx=>⟨(h3 x hx).1,G x hx,(h3 x hx).2,λk hk=>g4 x hx k hk⟩);have D0:=YT (A:=A) O hll hP;have hmu0:mu p A (cW p A l)<=400 * A.length:=by
  have e1:=D0.tr;have e2:=K7 (N:=A.length) ((cW p A l).nds.map (fJ p A)) λy hy=>by obtain⟨x,_,rfl⟩:=ig.1 hy;exact Ks _ _
  rw[ka]at e2;have e3:(cW p A l).nds.length=l.length:=by simp[cW]
  rw[e3]at e2;have e4:=jl A.length hll;grind[mu]
 unfold HL at hR;simp only at hR;obtain⟨Fσ,hF⟩:=Qaj (vO pw nb p A choices (mu p A (cW p A l)) 0 (cW p A l))
 rw[hF]at hR;refine M ?_;refine xS (α:=Nat×Sy×mz×Nat) (λx=>SyOk pw nb p A s x.2.1/\BdOk p A (3000000000+64 * A.length) (256 * A.length) x.2.1/\SysH (H.length+1) nb p A x.2.2.1 o q ef x.2.2.2 ks x.2.1/\(∃f,mu p A x.2.1<=f/\vO pw nb p A choices f x.1 x.2.1=Fσ)/\(∀j,j<H.length+1->x.2.2.1[j]?=H1[j]?)/\x.1+mu p A x.2.1<=400 * A.length)
  (λx=>⟨[(4,.slice (choices.map qe)),(12,.ptr o 0),(13,I x.1)],x.2.2.1⟩) (λx=>mu p A x.2.1) (0,cW p A l,X,tr) ⟨Y0,D0,S0,⟨_,gj _,hF⟩,hX0,by simpa using hmu0⟩ (Wk.slots bj) ?_
 clear S0 hX0 Y0 D0 hmu0 hF tr X;rintro⟨step,σ,X,tr⟩ ⟨h',D,my,⟨f,hf,pj⟩,hX,r7⟩;dsimp only at h' D my hf pj hX r7|-;have xc:σ.nds.length<=16:=by have:=uR p;rw[<-h'.nodes,ka]at this;exact this
 have htr:=D.tr;have hact:=YN my xc J J λx hx=>⟨(h'.nd x hx).ls,(h'.nd x hx).le,by have:=D.tb x hx;omega⟩
 have hw:IntKind.i64.wrap ((step:Int)+1)=(step:Int)+1:=eU J J;refine M ?_;refine se hact ?_;rintro r Y ⟨rfl,iE⟩;rw[iE];clear iE Y;refine nf (λhc=>?_) (λhc=>?_)
 .have hrF:σ=Fσ:=by
   rw[<-pj];cases f with
   |zero=>rfl
   |succ f=>rw[vO,hc];rfl
  subst hrF;obtain⟨l1,l2,l3,l4⟩:=my.lt;have hSo:(X++[AObj.oarr 89 3 ((eB p A σ).map (oE o))])[o]?=some (.cells (xG nb p A q ef tr σ.nds.length σ.tr.length σ.efs.length)):=by rw[gu l1];exact my.ho
  have hSq:(X++[AObj.oarr 89 3 ((eB p A σ).map (oE o))])[q]?=some (.oarr 97 1 (ks.map λk=>[.ptr k.c 0])):=by rw[gu l2];exact my.hq
  have oF:=my.len;simp-dsimp[go_sem,B,hSo,hSq,oF];obtain⟨X3,hX3⟩:=Qaj (X++[AObj.oarr 89 3 ((eB p A σ).map (oE o))])
  have hX3l:X3.length=X.length+1:=W;have hX3o:∀j,j<X.length->X3[j]?=X[j]?:=λj hj=>by rw[<-hX3];exact gu hj
  obtain⟨X5,hX5⟩:=Qaj (X3.set ef (.arr 82 8 (σ.efs.map Eff.c)))
  have hX5l:X5.length=X.length+1:=W;obtain⟨n1,n2,n3,n4,n5,n6⟩:=my.ne;have hX5o:∀j,j<X.length->j≠ef->X5[j]?=X[j]?:=λj hj h=>by rw[<-hX5,gv (Ne.symm h)];exact hX3o j hj
  have hBo:=my.lo;obtain⟨Hk,hHk⟩:∃Hk:List Shard->mz,∀al,X5++[AObj.arr 53 2 (al.map Shard.c)]=Hk al:=⟨_,λ_=>rfl⟩
  have hHl:∀al,(Hk al).length=X.length+2:=λal=>by rw[<-hHk];simp[hX5l]
  have hHo:∀al,(Hk al)[o]?=some (.cells (xG nb p A q ef tr σ.nds.length σ.tr.length σ.efs.length)):=λal=>by rw[<-hHk,gu J,hX5o _ l1 (Ne.symm n2)];exact my.ho
  have hHq:∀al,(Hk al)[q]?=some (.oarr 97 1 (ks.map λk=>[.ptr k.c 0])):=λal=>by rw[<-hHk,gu J,hX5o _ l2 (Ne.symm n4)];exact my.hq
  have hHe:∀al,(Hk al)[ef]?=some (.arr 82 8 (σ.efs.map Eff.c)):=λal=>by rw[<-hHk,gu J,<-hX5,ji J]
  have hHa:∀al,(Hk al)[X.length+1]?=some (.arr 53 2 (al.map Shard.c)):=λal=>by rw[<-hHk,gz J];simp[hX5l]
  have hHs:∀al S,(Hk al).set (X.length+1) (.arr 53 2 S)=X5++[AObj.arr 53 2 S]:=λal S=>by rw[<-hHk,ku _ _ J];simp[hX5l]
  obtain⟨shL,hshL⟩:∃shL:Nat->List Shard,∀n,(σ.nds.take n).map (λx=>(⟨x.node,x.prs⟩:Shard))=shL n:=⟨_,λ_=>rfl⟩
  rw[hX3];refine po σ.nds.length (λ_=>True) (λn=>⟨[(12,.ptr o 0),(16,.own (X.length+1) n),(53,.own q σ.nds.length),(54,I σ.nds.length),(55,I n)],Hk (shL n)⟩) trivial ?_ ?_
  .refine(tX E _ (i:=ef) (t:=82) (sz:=8) (S:=σ.efs.map Eff.c) (by simp only[hX3o _ l3];exact my.he)).trans ?_;simp only[hX5];refine(mF E _ 16 53 2 af).trans ?_;simp only[hX5l];rw[show X5++[AObj.arr 53 2 []]=Hk (shL 0)from by rw[<-hshL];exact hHk []];exact Qfr
  intro n hn _;have qP:=oi hn J;refine nf (λhd=>?_) (λhd=>?_)
  .obtain⟨k,hk,N⟩:=my.node hd;have hkl:n<ks.length:=J;have dG:ks[n]=k:=W;obtain⟨gk,_⟩:=my.gt hk (ii hd);obtain⟨x,hx⟩:=Qaj (σ.nds[n])
   rw[hx]at N;have hHc:∀al,(Hk al)[k.c]?=some (.cells (wP x k)):=λal=>by rw[<-hHk,gu (by have:=N.lt.1;omega),hX5o _ N.lt.1 gk.2.2.1];exact N.hc
   have htk:shL (n+1)=shL n++[⟨x.node,x.prs⟩]:=by rw[<-hshL,<-hshL,jn hd,jr,hx];rfl
   obtain⟨al,kM⟩:=Qaj (shL n)
   have nz:al.length=n:=by rw[<-kM,<-hshL];simp;omega
   rw[htk,kM];simp-dsimp[go_sem,B,hHq,hkl,dG,hd,oF,hHc,hHa,nz];refine⟨J,?_⟩;rw[hHs,show X5++[AObj.arr 53 2 (al.map Shard.c++[[I x.node,.slice (x.prs.map Pr.c)]])]=Hk (al++[⟨x.node,x.prs⟩])from by rw[<-hHk,jr];rfl];exact Wk.slots (by simp[wkS,go_sem,qP])
  have jG:n=σ.nds.length:=J;subst jG;have tj:=hshL σ.nds.length;rw[mj]at tj;rw[tj]at hR;obtain⟨al,kM⟩:=Qaj (shL σ.nds.length)
  have nz:al.length=σ.nds.length:=W;rw[kM]at hR|-;refine M ?_;refine pf 6 ?_;simp-dsimp[go_sem,B,hHo,hHe,hHa,nz];have hpre:hwk (Hk al) H:=by
   have hz:∀j,j<H.length->(Hk al)[j]?=H[j]?:=λj hj=>by rw[<-hHk,gu J,hX5o _ J J,hX _ J,<-lW,gu hj]
   have e:Hk al=H++(Hk al).drop H.length:=by
    have e1:(Hk al).take H.length=H:=by
     refine kp λj=>?_;rw[jo];split
     .grind
     grind
    grind[me]
   grind[hwk.app0]
  subst hR;exact⟨_,.refl _,H,ca,hpre,gj _,Q,rfl,rfl⟩
 obtain⟨a,ha,hai⟩:=ND (choices:=choices) (step:=step) hc;obtain⟨al,kM⟩:=Qaj (eB p A σ)
 have hpos:0<al.length:=W;obtain⟨ix,cV⟩:=Qaj (vV choices step al.length)
 rw[kM,cV]at hai;have hixl:ix<al.length:=(gn.1 hai).1;have hcho:=Z0 choices step al.length hpos;rw[cV]at hcho;have hYs:=O7 O hB hs g2 h' ha;have hDs:=qmc O hB hs g2 h' D ha;have qX:=OD O (uR p) h' ha;obtain⟨X2,hX2⟩:=Qaj (X++[AObj.oarr 89 3 (al.map (oE o)),AObj.cells (oE o a)])
 have S2:=my.up0 (H':=X2) λj hj=>by rw[<-hX2];exact gu hj
 have hBX:=my.lo.1;obtain⟨l1,l2,l3,l4⟩:=my.lt;have hX2o:∀j,j<H.length+1->X2[j]?=H1[j]?:=λj hj=>by rw[<-hX2,gu J];exact hX j hj
 obtain⟨fn,x,y,td,lK⟩:=Z5 (g:=g) (tT:=tT) (tx:=tx) S2 O hB hs g2 h' D W J hT J ha;have hag:al[ix]=a:=W;rw[kM];refine M ?_;refine nc hcho ?_;simp-dsimp[go_sem,B,hixl,hag,td];rw[td]at hX2;rw[hX2];refine se lK ?_;rintro r Y ⟨rfl,⟨tr2,S3⟩,hf3⟩;refine Qaa ?_;refine⟨step+1,we pw nb p A σ a,Y,⟨hYs,hDs,⟨tr2,S3⟩,?_,λj hj=>(hf3 j hj).trans (hX2o j hj),J⟩,qX,Wk.slots bj⟩;obtain⟨f1,rfl⟩:∃f1,f=f1+1:=⟨f - 1,J⟩
 grind[vO]
end
def Ua(a b:List Pr)(hB:a.length+b.length<68719476736):APure prog 36 [.slice (a.map Pr.c),.slice (b.map Pr.c)] (.tuple [.slice ((cC a b).1.map Pr.c),I (cC a b).2]):=by
 obtain⟨R,hR⟩:=Qaj (cC a b)
 rw[hR];unfold cC at hR;have hap:=LV a b hB;refine ry func36 ntmps36 λE h B hh Q hb=>?_;refine M ?_;refine nc (zR a) (M ?_);refine pz (zR b) Z ?_;refine nf (λL=>?_) (λL=>?_)
 .exact Qfv
 rw[gg W]at hR;obtain⟨b1,b2,b3⟩:=(zz b).1 L.2;have aN:y9 b=true:=(oN _).2 ⟨λq hq=>(b1 q hq).1,b2,b3⟩;rw[L.1,aN,gh (show(true&&true)=true from rfl)]at hap;refine M ?_;refine po b.length (λn=>((b.drop n).any λx=>tf a x.key)=b.any λx=>tf a x.key) (λn=>⟨[(0,.slice (a.map Pr.c)),(1,.slice (b.map Pr.c)),(6,I n)],h⟩) Z ng ?_;intro n hn z;have hw:=oi hn hb.2.1;refine nf (λhc=>?_) (λhc=>?_)
 .rw[ov hc,qit]at z;refine Qab ?_;refine nc (JT a b[n].key) (M ?_);refine og (λhg=>?_) (λhg=>?_)
  .rw[hg,Bool.true_or]at z;rw[gh z.symm]at hR;exact Qeu
  rw[hg,qir]at z;exact Qfx
 rw[gq J,qjn]at z;rw[gg W]at hR;subst hR;refine M ?_;refine nc hap ?_;exact Qek
theorem Lj{α:Type}{f:α->α->Bool}:∀{a b:List α},a.length≠b.length->ta f a b=false
 | [],[],h=>(h rfl).elim
 | [],y::b,_=>rfl
 |x::a,[],_=>rfl
 |x::a,y::b,h=>by rw[ta,Lj W,Bool.and_false]
def WN(a b:List Eff):APure prog 18 [.slice (a.map Eff.c),.slice (b.map Eff.c)] (Bo (ta xK a b)):=by
 refine ry func18 ntmps18 λE h B hh Q hb=>?_;refine nf (λL=>?_) (λL=>?_)
 .rw[Lj J];exact Qek
 refine M ?_;refine po a.length (λn=>ta xK (a.drop n) (b.drop n)=ta xK a b) (λn=>⟨[(0,.slice (a.map Eff.c)),(1,.slice (b.map Eff.c)),(5,I n)],h⟩) Z ng ?_;intro n hn z;have hw:=oi hn hb.1.1;refine nf (λhc=>?_) (λhc=>?_)
 .have sq:n<b.length:=J;rw[ov hc,ov sq,ta]at z;simp-dsimp[go_sem,B,hc,sq];refine pf 8 ?_;simp-dsimp[go_sem,B,hc,sq];refine nc (Yt a[n] b[n]) ?_;refine nf (λhg=>?_) (λhg=>?_)
  .rw[hg,ly]at z;exact Qem
  rw[hg,jb]at z;exact Qfx
 exact Qfq
def yF(x y:Shard):Bool:=decide (x.node=y.node)&&ta iF x.prs y.prs
theorem TN(a b:List Shard):APure prog 13 [.slice (a.map Shard.c),.slice (b.map Shard.c)] (Bo (ta yF a b)):=by
 refine ry func13 ntmps13 λE h B hh Q hb=>?_;refine nf (λL=>?_) (λL=>?_)
 .rw[Lj J];exact Qek
 refine M ?_;refine po a.length (λn=>ta yF (a.drop n) (b.drop n)=ta yF a b) (λn=>⟨[(0,.slice (a.map Shard.c)),(1,.slice (b.map Shard.c)),(5,I n)],h⟩) Z ng ?_;intro n hn z;have hw:=oi hn hb.1.1;refine nf (λhc=>?_) (λhc=>?_)
 .have sq:n<b.length:=J;rw[ov hc,ov sq,ta]at z;simp-dsimp[go_sem,B,hc,sq];refine pf 22 ?_;simp-dsimp[go_sem,B,hc,sq];refine pz (OJ a[n].prs b[n].prs) Z ?_;refine nf (λhg=>?_) (λhg=>?_)
  .have:yF a[n] b[n]=false:=by unfold yF;rcases hg with hg|hg<;>simp[hg]
   rw[this,ly]at z;exact Qem
  have:yF a[n] b[n]=true:=by unfold yF;simp[hg]
  rw[this,jb]at z;exact Qfx
 exact Qfq
def Fj(p:Plc):APure prog 27 [.agg p.c] (Bo (qw p)):=by
 obtain⟨ver,l⟩:=p;refine od func27 ntmps27 λE h B hh Q hb=>?_;simp[go_sem,Plc.c]at hb;cases l with
 |nil =>
  have hR:qw ⟨ver,[]⟩=false:=by simp[qw]
  rw[hR];simp-dsimp[go_sem,B,Plc.c]
 |cons x r =>
 have hR:qw ⟨ver,x::r⟩=(decide (0<=ver)&&decide (ver<=1099511627776)&&decide ((x::r).length<=16)&&decide (x.frm=em)&&eT [] (x::r)):=by simp[qw]
 rw[hR];obtain⟨l,hl⟩:∃l,l=x::r:=⟨_,rfl⟩
 have hx:l[0]?=some x:=W;have hpos:0<l.length:=W;rw[<-hl]at hb|-;have eE:l[0]=x:=W;rw[show decide (x.frm=em)=decide (l[0].frm=em)by rw[eE]];simp-dsimp[go_sem,B,Plc.c,hpos];refine ox (λhc=>?_) (λhc=>?_)
 .rw[show(decide (0<=ver)&&decide (ver<=1099511627776)&&decide (l.length<=16)&&decide (l[0].frm=em)&&eT [] l)=false from ?_]
  .exact Qek
  grind
 obtain⟨⟨⟨⟨k1,k2⟩,k3⟩,k4⟩,k5⟩:=hc;rw[show(decide (0<=ver)&&decide (ver<=1099511627776)&&decide (l.length<=16)&&decide (l[0].frm=em)&&eT [] l)=eT [] l by rw[ki k1,ki k2,ki (show l.length<=16 by omega),ki (show l[0].frm=em from k5)];rfl]
 simp-dsimp[go_sem,B,Plc.c,hpos];refine po l.length (λn=>eT (l.take n) (l.drop n)=eT [] l) (λn=>⟨[(1,.ptr h.length 0),(3,I l.length),(4,I n)],h++[.cells [I ver,.slice (l.map Part.c)]]⟩) Z ng ?_;intro n hn z;have hw:=oi hn hb.1;refine nf (λhc=>?_) (λhc=>?_)
 rotate_left
 .rw[gq J,eT]at z;exact Qem
 rw[ov hc,eT]at z;rw[<-jn hc]at z;obtain⟨X,hX⟩:=Qaj (l[n])
 rw[hX]at z;have qP:=hw;simp-dsimp[go_sem,B,hc,hw,hX];have fT:∀nx:na,(n+1<l.length->∃hh:n+1<l.length,nx=l[n+1].frm)->(if decide (((n:Int)+1)=(l.length:Int))then none else some nx)=((l.drop (n+1)).head?.map (·.frm)):=λnx jT=>by grind[List.head?_drop,ii,lf]
 have r9:∀nx:na,(n+1<l.length->∃hh:n+1<l.length,nx=l[n+1].frm)->APure prog 50 [.agg X.c,my nx,Bo (decide (((n:Int)+1)=(l.length:Int)))] (Bo (pS X ((l.drop (n+1)).head?.map (·.frm)))):=λnx jT =>
  DC (ql4 X nx _) W
 clear fT;obtain⟨PA,hM⟩:=Qaj (pS X ((l.drop (n+1)).head?.map (·.frm)))
 rw[hM]at z r9;clear hM;obtain⟨D,hD⟩:∃D,((l.take n).any λy=>decide (y.id=X.id))=D:=⟨_,rfl⟩
 rw[hD]at z;obtain⟨ac,hZ⟩:=Qaj (eT (l.take (n+1)) (l.drop (n+1)))
 rw[hZ]at z;have hbad:(((X.id<1\/1099511627776<X.id)\/X.node<1)\/16<X.node)\/PA=false->(pZ X.id&&jX X.node&&PA)=false:=λhg=>by rw[l8];intro hk;simp only[pZ,jX,gy,jm]at hk;grind
 have hgood:(((1<=X.id/\X.id<=1099511627776)/\1<=X.node)/\X.node<=16)/\PA=true->(pZ X.id&&jX X.node&&PA)=true:=λhg=>by grind[pZ,jX]
 have hbadS:∀m (hm:m<l.length),(((((lG X.frm=false\/px X.frm l[m].frm=true\/X.frm=l[m].frm)\/X.id<1)\/1099511627776<X.id)\/X.node<1)\/16<X.node)\/PA=false->(lG X.frm&&px l[m].frm X.frm&&pZ X.id&&jX X.node&&PA)=false:=λm hm hg=>by
  rcases hg with((((h|h)|h)|h)|h)|h
  .rcases h with h|h|h
   .rw[h];rfl
   .rw[EQ h,Bool.and_false];rfl
   rw[h,uZ,Bool.and_false];rfl
  all_goals rw[ma (_&&_&&_),ma (_&&_)];rw[<-ma (pZ _)]
  all_goals rw[hbad cn,Bool.and_false]
 have hgoodS:∀m (hm:m<l.length),(((((lG X.frm=true/\px X.frm l[m].frm=false/\¬X.frm=l[m].frm)/\1<=X.id)/\X.id<=1099511627776)/\1<=X.node)/\X.node<=16)/\PA=true->(lG X.frm&&px l[m].frm X.frm&&pZ X.id&&jX X.node&&PA)=true:=λm hm hg=>by grind[A3,pZ,jX]
 obtain⟨nx,jT,Av⟩:∃nx:na,(n+1<l.length->∃hh:n+1<l.length,nx=l[n+1].frm)/\(¬n+1<l.length->nx=em):=by
  by_cases O:n+1<l.length
  .simp_all
  exact⟨em,λh=>(O h).elim,λ_=>rfl⟩
 have r9:=r9 nx jT;refine ox (λO=>?_) (λO=>?_)
 .have jV:n+1<l.length:=J;obtain⟨_,rfl⟩:=jT jV;clear Av jT;cases n with
  |zero =>
   have hbx:lG X.frm=true:=by rw[<-hX,k5];rfl
   simp only[Int.natCast_zero,Int.zero_add,im]at r9;rw[qi6,JS,jb]at z;simp-dsimp[go_sem,B,jV,qP];refine pf 47 (M ?_);refine p7 (DC (Ei X.frm) (congrArg Bo hbx)) Z (M ?_);refine pz r9 Z ?_;refine nf (λhg=>?_) (λhg=>?_)
   .have rh:=hbad hg;exact Qee
   have wu:=hgood hg;rw[wu,jb]at z;refine M ?_;refine po (0) (λk=>((l.take (0)).drop k).any (λy=>decide (y.id=X.id))=D) (λk=>⟨[(1,.ptr h.length 0),(3,I l.length),(4,I ((0:Nat):Int)),(5,.ptr (h.length+1) 0),(7,I k)],h++[.cells [I ver,.slice (l.map Part.c)],.cells X.c]⟩) W ng ?_;intro k hk hJ;have hwk:=oi (n:=k) (h0:=l.length) J hb.1;have hkl:(l.take (0)).length=0:=Z;refine nf (λhd=>?_) (λhd=>?_)
   .omega
   exact Qhe
  |succ m =>
   have hm:m<l.length:=J;have ht3:((m:Int)+1+1).toNat=m+1+1:=J;have hw3:IntKind.i64.wrap ((m:Int)+1+1)=(m:Int)+1+1:=W;simp only[Int.natCast_add,Int.natCast_one]at r9;have uc:=uG (kb hm) hb.1;rw[Jt hm]at z;simp-dsimp[go_sem,B,jV,hw3,ht3];refine⟨J,?_⟩;refine pf 47 (M ?_);refine p7 (Ei X.frm) Z ?_;simp-dsimp[go_sem,B,uc,hm,hw3];refine pz r9 Z ?_;refine nf (λhg=>?_) (λhg=>?_)
   .have rh:=hbadS m hm hg;exact Qee
   have wu:=hgoodS m hm hg;rw[wu,jb]at z;refine M ?_;refine po (m+1) (λk=>((l.take (m+1)).drop k).any (λy=>decide (y.id=X.id))=D) (λk=>⟨[(1,.ptr h.length 0),(3,I l.length),(4,I ((m+1:Nat):Int)),(5,.ptr (h.length+1) 0),(7,I k)],h++[.cells [I ver,.slice (l.map Part.c)],.cells X.c]⟩) W ng ?_;intro k hk hJ;have hwk:=oi (n:=k) (h0:=l.length) J hb.1;have hkl:(l.take (m+1)).length=m+1:=W;refine nf (λhd=>?_) (λhd=>?_)
   .have hkn:k<m+1:=J;have hkl2:k<l.length:=J;rw[ov (show k<(l.take (m+1)).length by omega),qit,List.getElem_take]at hJ;simp-dsimp[go_sem,B,hkl2];refine pf 8 ?_;simp-dsimp[go_sem,B,hkl2];refine ox (λhe=>?_) (λhe=>?_)
    .rw[ki he,Bool.true_or]at hJ;subst hJ;exact Qee
    exact Qhf
   exact Qhg
 have jV:¬n+1<l.length:=J;obtain rfl:=Av jV;clear Av jT;cases n with
 |zero =>
  have hbx:lG X.frm=true:=by rw[<-hX,k5];rfl
  simp only[Int.natCast_zero,Int.zero_add,im]at r9;rw[qi6,JS,jb]at z;refine M ?_;refine pf 47 (M ?_);refine p7 (DC (Ei X.frm) (congrArg Bo hbx)) Z (M ?_);refine pz r9 Z ?_;refine nf (λhg=>?_) (λhg=>?_)
  .have rh:=hbad hg;exact Qee
  have wu:=hgood hg;rw[wu,jb]at z;refine M ?_;refine po (0) (λk=>((l.take (0)).drop k).any (λy=>decide (y.id=X.id))=D) (λk=>⟨[(1,.ptr h.length 0),(3,I l.length),(4,I ((0:Nat):Int)),(5,.ptr (h.length+1) 0),(7,I k)],h++[.cells [I ver,.slice (l.map Part.c)],.cells X.c]⟩) W ng ?_;intro k hk hJ;have hwk:=oi (n:=k) (h0:=l.length) J hb.1;have hkl:(l.take (0)).length=0:=Z;refine nf (λhd=>?_) (λhd=>?_)
  .omega
  exact Qhe
 |succ m =>
  have hm:m<l.length:=J;have ht3:((m:Int)+1+1).toNat=m+1+1:=J;have hw3:IntKind.i64.wrap ((m:Int)+1+1)=(m:Int)+1+1:=W;simp only[Int.natCast_add,Int.natCast_one]at r9;have uc:=uG (kb hm) hb.1;rw[Jt hm]at z;refine M ?_;refine pf 47 (M ?_);refine p7 (Ei X.frm) Z ?_;simp-dsimp[go_sem,B,uc,hm,hw3];refine pz r9 Z ?_;refine nf (λhg=>?_) (λhg=>?_)
  .have rh:=hbadS m hm hg;exact Qee
  have wu:=hgoodS m hm hg;rw[wu,jb]at z;refine M ?_;refine po (m+1) (λk=>((l.take (m+1)).drop k).any (λy=>decide (y.id=X.id))=D) (λk=>⟨[(1,.ptr h.length 0),(3,I l.length),(4,I ((m+1:Nat):Int)),(5,.ptr (h.length+1) 0),(7,I k)],h++[.cells [I ver,.slice (l.map Part.c)],.cells X.c]⟩) W ng ?_;intro k hk hJ;have hwk:=oi (n:=k) (h0:=l.length) J hb.1;have hkl:(l.take (m+1)).length=m+1:=W;refine nf (λhd=>?_) (λhd=>?_)
  .have hkn:k<m+1:=J;have hkl2:k<l.length:=J;rw[ov (show k<(l.take (m+1)).length by omega),qit,List.getElem_take]at hJ;simp-dsimp[go_sem,B,hkl2];refine pf 8 ?_;simp-dsimp[go_sem,B,hkl2];refine ox (λhe=>?_) (λhe=>?_)
   .rw[ki he,Bool.true_or]at hJ;subst hJ;exact Qee
   exact Qhf
  exact Qhg
def Tt(p:Plc)(k:na)(hv:qw p=true):APure prog 51 [.agg p.c,my k] (I (gG p.parts k (p.parts.length - 1))):=by
 have oy:=zN hv;obtain⟨ver,l⟩:=p;simp only at oy|-;refine od func51 ntmps51 λE h B hh Q hb=>?_;simp[go_sem,Plc.c]at hb;simp-dsimp[go_sem,B,Plc.c];refine nc (DC (Fj ⟨ver,l⟩) (congrArg Bo hv)) (M ?_);refine po (l.length - 1) (λ_=>True) (λn=>⟨[(1,my k),(2,.ptr h.length 0),(5,I (gG l k n)),(6,I ((n+1:Nat):Int))],h++[.cells [I ver,.slice (l.map Part.c)]]⟩) trivial (ng (by simp[go_sem,gG])) ?_;intro n hn _;have hw:IntKind.i64.wrap ((n:Int)+1+1)=(n:Int)+1+1:=eU J J;have ht:((n:Int)+1).toNat=n+1:=J;refine nf (λhc=>?_) (λhc=>?_)
 .have tg:n+1<l.length:=J;have hs:gG l k (n+1)=if px k l[n+1].frm=true then gG l k n else n+1:=by rw[gG,ii tg]
  simp-dsimp[go_sem,B,tg,ht];refine⟨J,og (λhd=>?_) (λhd=>?_)⟩<;>simp at hd
  .have hk:px k l[n+1].frm=false:=by
    grind[uZ,EQ]
   rw[hk,gg Z]at hs;refine Qaa ?_;refine⟨J,?_⟩;rw[hs];exact ng
  have hk:px k l[n+1].frm=true:=by rw[A3,hd.1];simp[Ne.symm hd.2]
  rw[gh hk]at hs;refine Qaa ?_;refine⟨J,?_⟩;rw[hs];exact ng
 have bL:n=l.length - 1:=J;exact Qfw
def Pj(p:Plc)(k:na)(hv:qw p=true):APure prog 29 [.agg p.c,my k] (I (sg p k)):=by
 have oy:=zN hv;have hi:=GF p.parts k (p.parts.length - 1);have cV:=Tt p k hv;unfold sg;rw[gg (show ¬qw p=false by simp[hv])];obtain⟨ver,l⟩:=p;simp only at oy hi cV|-;obtain⟨i,hR⟩:=Qaj (gG l k (l.length - 1))
 rw[hR]at hi cV|-;have tq:i<l.length:=J;rw[ii tq];simp only;refine od func29 ntmps29 λE h B hh Q hb=>?_;simp[go_sem,Plc.c]at hb;simp-dsimp[go_sem,B,Plc.c];refine nc cV ?_;have hni:¬(i:Int)<0:=J;simp-dsimp[go_sem,B,tq,hni];refine ox (λhc=>?_) (λhc=>?_)
 .rw[gh hc];simp-dsimp[go_sem,B,tq]
 rw[gg (λg=>by have:=hc g.1;rw[g.2]at this;cases this)];simp-dsimp[go_sem,B,tq]
theorem DB{l m:List Int}(hl:l.Pairwise (· < ·))(hm:m.Pairwise (· < ·))(h:∀x,x∈l↔x∈m):l=m:=by
 induction l generalizing m with
 |nil =>
  cases m with
  |nil=>rfl
  |cons y m=>exact((by simpa using(h y).2 Z):False).elim
 |cons x l ih =>
  cases m with
  |nil=>exact(W:False).elim
  |cons y m =>
   obtain⟨l1,l2⟩:=jy.1 hl;obtain⟨m1,m2⟩:=jy.1 hm;have hxy:x=y:=by
    rcases iq.1 ((h x).1 Z)with e|e
    .exact e
    rcases iq.1 ((h y).2 Z)with e'|e'
    .omega
    grind
   subst hxy;rw[ih l2 m2 λhI=>?_];constructor
   .grind
   grind
def xV(l:List Part)(x:Int):Bool:=l.any λy=>decide (y.node=x)||decide (y.dest=x)
def qsn{p:Plc}(hv:qw p=true):((List.range 16).map λi:Nat=>(i:Int)+1).filter (xV p.parts)=uk p:=by
 refine DB ?_ (Em p) λx=>?_
 .simp[List.pairwise_map,List.Pairwise.filter,List.pairwise_lt_range.imp]
 rw[kl];constructor
 .rintro⟨O,U⟩;obtain⟨i,_,rfl⟩:=ig.1 O;rw[show uk p=mG (fD p.parts)from gh hv,xJ];obtain⟨y,hy,hq⟩:=qip.1 U;refine qjm.2 ⟨y,hy,?_⟩;simp only[qis,jm]at hq;rcases hq with hq|hq
  .grind
  grind
 intro hx;obtain⟨O,U⟩:=Md x hx;refine⟨ig.2 ⟨(x - 1).toNat,qil.2 J,J⟩,?_⟩;rw[show uk p=mG (fD p.parts)from gh hv,xJ]at hx;obtain⟨y,hy,hq⟩:=qjm.1 hx;refine qip.2 ⟨y,hy,?_⟩;simp only[qis,jm];split at hq
 .grind
 grind
def LO(p:Plc):APure prog 28 [.agg p.c] (.slice ((uk p).map qe)):=by
 have ug:=Fj p;have hnf:=λh=>qsn (p:=p) h;have nv:qw p=false->uk p=[]:=λh=>by unfold uk;rw[gg cn]
 obtain⟨v,hv⟩:=Qaj (qw p)
 rw[hv]at ug hnf nv;obtain⟨ver,l⟩:=p;refine od func28 ntmps28 λE h B hh Q hb=>?_;simp[go_sem,Plc.c]at hb;simp-dsimp[go_sem,B,Plc.c];cases v with
 |false =>
  rw[nv rfl];refine po 0 (λ_=>True) (λn=>⟨[(1,.ptr h.length 0),(3,.nils),(4,I 1)],h++[.cells [I ver,.slice (l.map Part.c)]]⟩) trivial ng ?_;intro n hn _;have:n=0:=J;subst this;refine M ?_;refine pz ug Z ?_;exact Qek
 |true =>
 rw[<-hnf rfl];clear hnf nv;obtain⟨F,hF⟩:∃F:Nat->List Int,F=λn=>((List.range n).map λi:Nat=>(i:Int)+1).filter (xV l):=⟨_,rfl⟩
 have jW:F 0=[]:=W;have aB:∀n:Nat,F (n+1)=F n++(if xV l ((n:Int)+1)=true then [(n:Int)+1]else []):=λn=>by grind[List.range_succ]
 have bX:∀n,(F n).length<=n:=λn=>by grind
 rw[show((List.range 16).map λi:Nat=>(i:Int)+1).filter (xV (Plc.mk ver l).parts)=F 16 by rw[hF]];clear hF;refine po 16 (λ_=>True) (λn=>⟨[(1,.ptr h.length 0),(3,.own (h.length+1) (F n).length),(4,I ((n+1:Nat):Int))],h++[.cells [I ver,.slice (l.map Part.c)],.arr 3 1 ((F n).map qe)]⟩) trivial ((mF E _ 3 3 1 af).trans ct) ?_;intro n hn _;have hw:IntKind.i64.wrap ((n:Int)+1+1)=(n:Int)+1+1:=eU J J;have hFn:=bX n;have wj:=aB n;refine M ?_;refine pz ug Z ?_;refine nf (λhc=>?_) (λhc=>?_)
 .refine M ?_;refine po l.length (λ_=>True) (λi=>⟨[(1,.ptr h.length 0),(3,.own (h.length+1) (F n).length),(4,I ((n+1:Nat):Int)),(5,Bo (xV (l.take i) ((n:Int)+1))),(6,I i)],h++[.cells [I ver,.slice (l.map Part.c)],.arr 3 1 ((F n).map qe)]⟩) trivial (ng (by simp[go_sem,xV])) ?_;intro i hi _;have hwi:=oi hi hb.1;refine nf (λhd=>?_) (λhd=>?_)
  .have hs:xV (l.take (i+1)) ((n:Int)+1)=(xV (l.take i) ((n:Int)+1)||decide (l[i].node=(n:Int)+1)||decide (l[i].dest=(n:Int)+1)):=by
    unfold xV;rw[jn hd,List.any_append];simp[Bool.or_assoc]
   simp-dsimp[go_sem,B,hd,hwi];rw[hs];exact ng
  have tq:i=l.length:=J;subst tq;refine M ?_;refine og (λhe=>?_) (λhe=>?_)
  .rw[gh he]at wj;refine Qaa ?_;refine⟨J,J,?_⟩;rw[wj];exact ng
  rw[gg W,jv]at wj;refine Qaa ?_;refine⟨J,?_⟩;rw[wj];exact ng
 have bL:n=16:=J;exact Qfw
def DN:List na:=[⟨#[112,114,111,99]⟩,⟨#[108,101,116]⟩,⟨#[112,117,116]⟩,⟨#[100,101,108,101,116,101]⟩,⟨#[105,102]⟩,⟨#[101,108,115,101]⟩,⟨#[102,111,114]⟩,⟨#[116,111]⟩,⟨#[109,97,120]⟩,⟨#[101,109,105,116]⟩,⟨#[97,98,111,114,116]⟩,⟨#[110,111,116]⟩,⟨#[97,110,100]⟩,⟨#[111,114]⟩,⟨#[105,110,116]⟩,⟨#[115,116,114]⟩,⟨#[98,111,111,108]⟩,⟨#[116,101,120,116]⟩,⟨#[108,101,110]⟩,⟨#[103,101,116,105,110,116]⟩,⟨#[103,101,116,115,116,114]⟩,⟨#[104,97,115]⟩,⟨#[110,111,119]⟩,⟨#[114,97,110,100,111,109]⟩,⟨#[110,111,100,101]⟩]
theorem qrs(s:na):qa DN s=kw s:=by have e:∀a:na,decide (a=s)=decide (s=a):=λa=>decide_eq_decide.2 ⟨Eq.symm,Eq.symm⟩;simp only[qa,DN,ut,kw,Bool.or_false,e,Bool.or_assoc]
def U7(l:List na)(k:na):APure prog 274 [.slice (l.map ny),my k] (Bo (qa l k)):=by
 refine ry func274 ntmps274 λE h B hh Q hb=>?_;refine M ?_;refine po l.length (λn=>qa (l.drop n) k=qa l k) (λn=>⟨[(0,.slice (l.map ny)),(1,my k),(5,I n)],h⟩) Z ng ?_;intro n hn z;have hw:=oi hn hb.1.1;refine nf (λhc=>?_) (λhc=>?_)
 .rw[ov hc,qa,ut]at z;refine Qab ?_;refine ox (λhg=>?_) (λhg=>?_)
  .exact Qee
  refine Qaa ?_;exact⟨hc,qhj,ng⟩
 rw[gq J,qa,ut]at z;exact Qem
def qob:APure prog 275 [] (.slice (DN.map ny)):=by refine od func275 ntmps275 λE h B hh Q hb=>?_;refine M ?_;simp[DN,ny]
def XQ(s:na):APure prog 236 [my s] (Bo (kw s)):=by refine od func236 ntmps236 λE h B hh Q hb=>?_;refine M ?_;refine nc qob (M ?_);refine nc (U7 DN s) ?_;simp-dsimp[go_sem,B,qrs]
def PR(c:UInt8):APure prog 234 [U8 c.toNat] (Bo (yD c.toNat)):=by refine od func234 ntmps234 λE h B hh Q hb=>?_;simp-dsimp[go_sem,B,yD]
def qq2(c:UInt8):APure prog 306 [U8 c.toNat] (Bo (decide ((48:Int)<=c.toNat)&&decide ((c.toNat:Int)<=57))):=by refine od func306 ntmps306 λE h B hh Q hb=>?_;exact Qek
def qpm(c:UInt8):APure prog 273 [U8 c.toNat] (Bo (xY c.toNat)):=by refine od func273 ntmps273 λE h B hh Q hb=>?_;refine M ?_;refine nc (PR c) (M ?_);refine pz (qq2 c) Z ?_;simp-dsimp[go_sem,B,xY];grind
def qm1(s:na):APure prog 235 [my s,I 0] (I (pV (bl s))):=by
 refine ry func235 ntmps235 λE h B hh Q hb=>?_;refine M ?_;refine po s.size (λn=>n+pV ((bl s).drop n)=pV (bl s)) (λn=>⟨[(0,my s),(1,I n)],h⟩) Z ng ?_;intro n hn z;have hw:=oi hn hb;refine M ?_;by_cases hc:n<s.size
 .rw[lJ hc,pV]at z;refine Qab ?_;refine pz (qpm (w9 s n)) (by simp[hc]) (Qab ?_);refine og ?_ ?_<;>intro hg<;>try simp at hg
  .refine Qaa ?_;exact⟨hc,by rw[gh hg]at z;omega,ng⟩
  exact Qee
 rw[vA hc,pV]at z;refine Qab ?_;refine Be .top Z Z (M ?_);omega
def GQ(s:na):APure prog 209 [my s] (Bo (kJ s)):=by
 refine od func209 ntmps209 λE h B hh Q hb=>?_;rcases KY s with rfl|O
 .exact Qey
 have s7:0<s.size:=J;have he:¬s=em:=by rintro rfl;simp at O
 simp-dsimp[go_sem,B,s7,he];refine pz (PR _) Z (M ?_);refine pz (qm1 s) Z (M ?_);refine pz (XQ s) Z ?_;simp-dsimp[go_sem,B,kJ,he,O]
def Lk(op:Int):APure prog 308 [I op] (I (uv op)):=by
 refine od func308 ntmps308 λE h B hh Q hb=>?_;by_cases O:op=1
 .subst O;exact Qhh
 by_cases U:op=2
 .subst U;exact Qhh
 by_cases h3:op=3
 .subst h3;exact Qhh
 by_cases h25:op=25
 .subst h25;exact Qhh
 by_cases h26:op=26
 .subst h26;exact Qhh
 by_cases h27:op=27
 .subst h27;exact Qhh
 by_cases h9:op=9
 .subst h9;exact Qhh
 by_cases eJ:op=18
 .subst eJ;exact Qhh
 by_cases jJ:op=20
 .subst jJ;exact Qhh
 by_cases h21:op=21
 .subst h21;exact Qhh
 by_cases h22:op=22
 .subst h22;exact Qhh
 by_cases h23:op=23
 .subst h23;exact Qhh
 by_cases fK:op=24
 .subst fK;exact Qhh
 simp-dsimp[go_sem,B,O,U,h3,h25,h26,h27,h9,eJ,jJ,h21,h22,h23,fK];refine ox (λhg=>?_) (λhg=>?_)
 .refine M ?_;grind[uv]
 refine M ?_;grind[uv]
def Eg(e:Ex):APure prog 239 [.agg e.x] (Bo (kP e)):=by refine od func239 ntmps239 λE h B hh Q hb=>?_;simp-dsimp[go_sem,B,kP]
def Qv(s:na):APure prog 187 [my s] (Bo (tv s)):=by
 refine ry func187 ntmps187 λE h B hh Q hb=>?_;refine nf (λL=>?_) (λL=>?_)
 .refine M ?_;grind[tv]
 refine M ?_;refine po s.size (λn=>ue iN ((bl s).drop n)=ue iN (bl s)) (λn=>⟨[(0,my s),(3,I n)],h⟩) Z ng ?_;intro n hn z;have hw:=oi hn hb;refine nf (λhc=>?_) (λhc=>?_)
 .rw[lJ hc,ue]at z;refine Qab ?_;refine og (λhg=>?_) (λhg=>?_)
  .refine M ?_;grind[tv,iN]
  exact Qec
 rw[vA J,ue]at z;simp-dsimp[go_sem,B,tv,<-z,L]
def qmm(op n:Int)(s:na)(args:List Ex)(d:Nat):APure prog 307 [.agg [I op,I n,my s,.slice (args.map Ex.c)],I d] (I (dA op n s args.length d)):=by
 refine od func307 ntmps307 λE h B hh Q hb=>?_;refine M ?_;refine nc (Lk _) (M ?_)
 repeat refine⟨W,?_⟩
 refine og (λL=>?_) (λL=>?_)
 .exact Qhi
 have jR:¬(uv op<0\/(op≠1/\n≠0)\/(op≠2/\op≠3/\s≠em)):=W;refine M ?_;refine pz (GQ s) Z (M ?_);refine og (λO=>?_) (λO=>?_)
 .exact Qhi
 have s7:¬(op=3/\kJ s=false):=W;refine M ?_;refine pf 21 (M ?_);refine p7 (Qv s) Z (M ?_);refine⟨W,?_⟩;refine p7 (Lk op) Z (M ?_)
 repeat refine⟨W,?_⟩
 refine og (λU=>?_) (λU=>?_)
 .exact Qhi
 have cY:¬((op=1/\n<0)\/(op=2/\tv s=false)\/(args.length:Int)≠uv op):=W;refine nf (λh3=>?_) (λh3=>?_)
 .exact Qhi
 exact Qhi
def Pn(e:Ex)(d:Nat):APure prog 277 [.agg e.x,I d] (I (te e d)):=by
 refine ry func277 ntmps277 λE h B hh Q hb=>?_;refine M ?_;refine nc (qmm _ _ _ _ _) ?_;refine nf (λL=>?_) (λL=>?_)
 .refine M ?_;grind[yL]
 have hd:d<=12:=by grind[dA]
 refine M ?_;refine po e.args.length (λn=>dC (e.args.drop n) (d+1)=dC e.args (d+1)) (λn=>⟨[(1,I d),(2,.ptr h.length 0),(6,I n)],h++[.cells e.x]⟩) Z ng ?_;intro n hn z;have hw:=oi hn hb.2.1;have uc:IntKind.i64.wrap ((d:Int)+1)=((d+1:Nat):Int):=cq;refine nf (λhc=>?_) (λhc=>?_)
 .rw[ov hc,dC]at z;simp-dsimp[go_sem,B,hc,uc];have ni:SizeOf.sizeOf e.args[n]<SizeOf.sizeOf e:=Ex.arg_lt (ij hc);refine nc (Pn e.args[n] (d+1)) ?_;refine nf (λhg=>?_) (λhg=>?_)
  .refine M ?_;grind[yL]
  exact Qef
 rw[gq J,dC]at z;refine M ?_;grind[yL]
termination_by SizeOf.sizeOf e
def FV(e:Ex):APure prog 240 [.agg e.x] (I (te e 1)):=by refine od func240 ntmps240 λE h B hh Q hb=>?_;refine M ?_;refine nc (Pn e 1) ?_;exact Qek
def fA(op:Int):Uses :=
 if op=1\/op=2 then⟨true,true,false,false,false,false⟩
 else if op=3 then⟨false,true,true,false,false,false⟩
 else if op=4\/op=7 then⟨false,true,false,false,false,false⟩
 else if op=5 then⟨false,true,false,false,true,true⟩
 else if op=6 then⟨true,true,true,true,true,false⟩
 else⟨false,false,false,true,false,false⟩
def qpn(op:Int):APure prog 238 [I op] (.tuple [Bo (fA op).name,Bo (fA op).max,Bo (fA op).a,Bo (fA op).b,Bo (fA op).body,Bo (fA op).other]):=by
 refine od func238 ntmps238 λE h B hh Q hb=>?_;by_cases O:op=1
 .subst O;exact Qhj
 by_cases U:op=2
 .subst U;exact Qhj
 by_cases h3:op=3
 .subst h3;exact Qhj
 by_cases h4:op=4
 .subst h4;exact Qhj
 by_cases h7:op=7
 .subst h7;exact Qhj
 by_cases h5:op=5
 .subst h5;exact Qhj
 by_cases h6:op=6
 .subst h6;exact Qhj
 simp-dsimp[go_sem,B,fA,O,U,h3,h4,h5,h6,h7]
def XX(a b:Int)(ha:i64 a)(rh:i64 b):APure prog 341 [I a,I b] (.tuple [I (sQ a b).1,I (sQ a b).2]):=by
 have G:=qlk ha rh;refine od func341 ntmps341 λE h B hh Q hb=>?_;refine M ?_
 repeat refine⟨W,?_⟩
 refine og (λL=>?_) (λL=>?_)
 .have O:(0<b/\p9 (a+b)<a)\/(b<0/\a<p9 (a+b)):=G.1 W;simp-dsimp[go_sem,B,sQ,O]
 have O:¬((0<b/\p9 (a+b)<a)\/(b<0/\a<p9 (a+b))):=λg=>by have:=G.2 g;simp at L;grind
 simp-dsimp[go_sem,B,sQ,O]
def IX(a b:Int)(ha:i64 a)(rh:i64 b):APure prog 257 [I a,I b] (.tuple [I (aE a b).1,I (aE a b).2]):=by
 have G:=qr4 ha rh;refine od func257 ntmps257 λE h B hh Q hb=>?_;refine M ?_
 repeat refine⟨W,?_⟩
 refine og (λL=>?_) (λL=>?_)
 .have O:(0<b/\a<p9 (a - b))\/(b<0/\p9 (a - b)<a):=G.1 W;simp-dsimp[go_sem,B,aE,O]
 have O:¬((0<b/\a<p9 (a - b))\/(b<0/\p9 (a - b)<a)):=λg=>by have:=G.2 g;simp at L;grind
 simp-dsimp[go_sem,B,aE,O]
def LX(a:Int)(ha:i64 a):APure prog 316 [I a] (.tuple [I (eF a).1,I (eF a).2]):=by rw[<-YG ha];refine od func316 ntmps316 λE h B hh Q hb=>?_;refine M ?_;refine nc (IX 0 a ⟨ax,ax⟩ ha) ?_;exact Qek
def C6(a:Int)(ha:i64 a):APure prog 345 [I a] (.val (.int .u64 (eK a))):=by
 refine od func345 ntmps345 λE h B hh Q hb=>?_;refine nf (λL=>?_) (λL=>?_)
 .refine M ?_;grind[Int.zero_sub,eK,qo4]
 refine M ?_;rw[Db L ec];grind[eK]
def Nu{h0 m:Int}(hL:0<=h0)(hm:0<m):0<=h0.tdiv m/\h0.tdiv m<=h0:=by rw[Int.tdiv_eq_ediv_of_nonneg hL];exact⟨Int.ediv_nonneg hL (Int.le_of_lt hm),Int.ediv_le_self m hL⟩
def Tx(a b:Int)(ha:i64 a)(rh:i64 b):APure prog 342 [I a,I b] (.tuple [I (kF a b).1,I (kF a b).2]):=by
 refine od func342 ntmps342 λE h B hh Q hb=>?_;refine M ?_
 repeat refine⟨W,?_⟩
 refine og (λL=>?_) (λL=>?_)
 .have O:a=0\/b=0:=by simpa using L
  simp-dsimp[go_sem,B,kF,O]
 have O:a≠0/\b≠0:=W;obtain⟨s1,s2⟩:=qnc ha rh O.1 O.2;have hbp:eK b≠0:=qib;refine M ?_;have hbp':0<eK b:=qib;refine og (λhs=>?_) (λhs=>?_)
 .have o9:decide (a<0)≠decide (b<0):=by simpa using hs
  have hm:=Oh ha rh O.1 O.2 9223372036854775808 W;have ht:=Nu (h0:=9223372036854775808) ax hbp';refine M ?_;refine nc (C6 a ha) (M ?_);refine nc (C6 b rh) ?_;simp-dsimp[go_sem,B,hbp];rw[Db ht.1 J];refine ox (λU=>?_) (λU=>?_)
  .have e:=s2 (hm.1 U);exact Qhk
  have hi:i64 (a * b):=by grind
  exact Qhl
 have o9:¬(decide (a<0)≠decide (b<0)):=by simpa using hs
 have hm:=Oh ha rh O.1 O.2 9223372036854775807 W;have ht:=Nu (h0:=9223372036854775807) ax hbp';refine M ?_;refine nc (C6 a ha) (M ?_);refine nc (C6 b rh) ?_;simp-dsimp[go_sem,B,hbp];rw[Db ht.1 J];refine ox (λU=>?_) (λU=>?_)
 .have e:=s2 (hm.1 U);exact Qhk
 have hi:i64 (a * b):=by grind
 exact Qhl
def TX(a b:Int)(ha:i64 a)(rh:i64 b):APure prog 343 [I a,I b] (.tuple [I (mY a b).1,I (mY a b).2]):=by
 refine od func343 ntmps343 λE h B hh Q hb=>?_;refine nf (λL=>?_) (λL=>?_)<;>simp-dsimp[go_sem,B]
 .grind[mY]
 refine ox (λO=>?_) (λO=>?_)<;>simp-dsimp[go_sem,B]
 .refine nc (LX a ha) (M ?_);grind[mY]
 repeat refine⟨W,?_⟩
 exact Qff
def Xz(a b:Int):APure prog 344 [I a,I b] (.tuple [I (kU a b).1,I (kU a b).2]):=by
 refine od func344 ntmps344 λE h B hh Q hb=>?_;refine nf (λL=>?_) (λL=>?_)<;>simp-dsimp[go_sem,B]
 .grind[kU]
 refine ox (λO=>?_) (λO=>?_)<;>simp-dsimp[go_sem,B]
 .grind[kU]
 repeat refine⟨W,?_⟩
 exact Qfg
theorem IF(n:Int):Lib.itoa n=if n<0 then 45::Lib.decDigits (eK n).toNat else Lib.decDigits (eK n).toNat:=by unfold Lib.itoa eK;grind
def ZI(n:Int)(hn:i64 n):APure prog 317 [I n] (my (pw n)):=by
 refine od func317 ntmps317 λE h B hh Q hb=>?_;refine M ?_;refine nc (C6 n hn) (M ?_);obtain⟨h2,hU⟩:∃h2:Nat,eK n=h2:=⟨(eK n).toNat,by unfold eK;split<;>omega⟩
 have hUl:(Lib.decDigits h2).length<=21:=by have O:=Lib.itoa_length_le n hn.1 hn.2;grind[IF]
 have hU64:h2<=18446744073709551615:=by have:=hn.1;have:=hn.2;grind[eK]
 refine xS (α:=Nat×na) (λx=>tQ x.1 x.2=Lib.decDigits h2/\x.1<=18446744073709551615) (λx=>⟨[(0,I n),(3,.val (.int .u64 x.1)),(4,my x.2)],h⟩) (λx=>x.1+if x.2=em then 1 else 0) (h2,em) ⟨by simp[tQ,bl],hU64⟩ (ng (by simp[go_sem,hU])) ?_;rintro⟨u,s⟩ ⟨z,nh⟩;dsimp only at z nh;have tj:=Zr u s;rw[z]at tj;refine M ?_;have htm:((u:Int).tmod 10)=((u % 10:Nat):Int):=rfl;have hd:IntKind.u8.wrap (IntKind.u64.wrap (48+(u:Int).tmod 10))=((48+u % 10:Nat):Int):=by rw[htm,Db J J];exact Qdm
 have hq:IntKind.u64.wrap ((u:Int) / 10)=((u / 10:Nat):Int):=by grind[Db]
 refine og (λhc=>?_) (λhc=>?_)
 .have xn:0<u\/s=em:=by simpa[em]using hc
  have nv:wK u++s≠em:=λe=>by
   have:=congrArg ByteArray.size e;rw[qj1]at this;have O:(wK u).size=1:=rfl
   simp_all
  have hdg:({ data:=#[UInt8.ofNat (48+u % 10)] }:ByteArray)=wK u:=rfl;simp-dsimp[go_sem,B,hd,hq];refine⟨?_,J,u / 10,wK u++s,⟨by rw[qnk xn];exact z,J⟩,?_,?_⟩
  .simp[Ic,go_sem]
  .grind
  have hx:({ data:=#[UInt8.ofNat (48+(u:Int) % 10).toNat] }:ByteArray)=wK u:=by grind
  exact Wk.mk bb Z J (by simp[go_sem,hx])
 have xn:u=0/\s≠em:=by simp at hc;exact⟨J,by simpa[em]using hc.2⟩
 obtain⟨rfl,nv⟩:=xn;rw[qqi nv]at z;refine nf (λU=>?_) (λU=>?_)
 .refine M ?_;refine⟨J,?_⟩;refine Sw ?_
  simp_all[bl,pw,IF]
 refine M ?_;refine Sw ?_;grind[bl,pw,IF]
section
attribute [local go_sem] RM.c
variable (C:Cfg)
theorem sS(m:RM)(c:Int):APure prog 218 [.agg (m.c C),I c] (.agg ((m.ab c).c C)):=by
 refine od func218 ntmps218 λE h B hh Q hb=>?_;refine M ?_
 try simp[RM.ab]
theorem Re(m:RM)(k:na):APure prog 255 [.agg (m.c C),my k] (.agg ((m.rst k).c C)):=by
 refine od func255 ntmps255 λE h B hh Q hb=>?_;refine M ?_
 try simp[RM.rst]
theorem yR(m:RM):APure prog 156 [.agg (m.c C)] (Bo (decide (m.st=0))):=by refine od func156 ntmps156 λE h B hh Q hb=>?_;exact Qek
theorem Pf(l:List na)(k:na)(hB:l.length+1<=68719476736):APure prog 256 [.slice (l.map ny),my k] (.slice ((zj l k).map ny)):=by
 have nh:=zO k l;refine ry func256 ntmps256 λE h B hh Q hb=>?_;refine M ?_;refine po l.length (λn=>n+ru k (l.drop n)=ru k l) (λn=>⟨[(0,.slice (l.map ny)),(1,my k),(5,I n)],h⟩) Z ng ?_;intro n hn z;have hw:=oi hn (show _<=68719476736 by omega);refine M ?_;by_cases hc:n<l.length
 .rw[ov hc,ru]at z;refine Qab ?_;refine og ?_ ?_<;>intro hg<;>try simp at hg
  .exact Qfp
  rw[gg (by simp[hg])]at z;have hp:ru k l=n:=J;refine Qab ?_;refine og ?_ ?_<;>intro hk<;>try simp at hk
  .refine M ?_;grind[zj]
  refine M ?_;grind[ny,ln,lz,zj]
 rw[gq J,ru]at z;have hp:ru k l=n:=J;have oT:l[n]?=none:=lf J;refine Qab ?_;grind[ny,ln,lz,zj]
theorem Ff(l:List Pr)(p:Pr)(hB:l.length+1<=68719476736):APure prog 154 [.slice (l.map Pr.c),.agg p.c] (.slice ((yj l p).map Pr.c)):=by
 have nh:=HG p.key l;refine ry func154 ntmps154 λE h B hh Q hb=>?_;refine M ?_;refine po l.length (λn=>n+zq p.key (l.drop n)=zq p.key l) (λn=>⟨[(0,.slice (l.map Pr.c)),(3,P0 h.length),(5,I n)],h++[.cells p.c]⟩) Z ng ?_;intro n hn z;have hw:=oi hn (show _<=68719476736 by omega);refine M ?_;refine pf 12 ?_;by_cases hc:n<l.length
 .rw[ov hc,zq]at z;refine Qab ?_;refine og ?_ ?_<;>intro hg<;>try simp at hg
  .exact Qfp
  rw[gg (by simp[hg])]at z;have hp:zq p.key l=n:=J;refine M ?_;refine pf 12 (Qab ?_);refine og ?_ ?_<;>intro hk<;>try simp at hk
  .have e:yj l p=l.take n++p::l.drop (n+1):=by
    grind[yj,yI]
   refine Qaa ?_;grind[ln,lz,Pr.c,AV.c]
  have e:yj l p=l.take n++p::l.drop n:=by grind[yj,yI]
  refine M ?_;grind[ln,lz,Pr.c,AV.c]
 rw[gq J,zq]at z;have hp:zq p.key l=n:=J;have oT:l[n]?=none:=lf J;have e:yj l p=l.take n++p::l.drop n:=by grind[yj,yI]
 refine Qab ?_;refine pf 12 (Qab ?_);grind[ln,lz,Pr.c,AV.c]
theorem SN(m:RM)(k:na)(hB:m.reads.length+1<=68719476736):APure prog 318 [.agg (m.c C),my k] (.tuple [.agg (u7 C m k).1.c,.agg ((u7 C m k).2.c C)]):=by
 refine od func318 ntmps318 λE h B hh Q hb=>?_;refine M ?_;refine nc (Gh k) (M ?_);refine og ?_ ?_<;>intro L<;>try simp at L
 .have e:u7 C m k=(AV.nil,m.ab 1004):=by unfold u7;rw[gh L]
  exact Qhm
 refine M ?_;refine nc (K8 m.puts k) (M ?_);refine og ?_ ?_<;>intro O<;>try simp at O
 .have e:u7 C m k=(pp m.own k,m):=by unfold u7;rw[gg bz,gh O]
  rw[e];refine M ?_;refine aW 6 mixed ah (M ?_);refine p7 (J9 m.own k) Z (M ?_);simp[ww,List.zipIdx]
 refine M ?_;refine pz (K8 C.rd k) Z (M ?_);refine og (λU=>?_) (λU=>?_)
 .have e:u7 C m k=(AV.nil,m.rst k):=by unfold u7;rw[gg bz,gg dq,gh W]
  exact Qhn
 have e:u7 C m k=(pp C.state k,{ m with reads:=zj m.reads k }):=by unfold u7;rw[gg bz,gg dq,gg W]
 rw[e];refine M ?_;refine nc (Pf m.reads k hB) (M ?_);refine aW 6 mixed ah (M ?_);refine p7 (J9 C.state k) Z (M ?_);simp[ww,List.zipIdx]
theorem MJ(m:RM)(k:na)(v:AV)(hB:m.puts.length+1<=68719476736)(hB2:m.own.length+1<=68719476736):APure prog 220 [.agg (m.c C),my k,.agg v.c] (.agg ((kN C m k v).c C)):=by
 refine od func220 ntmps220 λE h B hh Q hb=>?_;refine M ?_;refine nc (Gh k) (M ?_);refine og ?_ ?_<;>intro L<;>try simp at L
 .have e:kN C m k v=m.ab 1004:=by unfold kN;rw[gh L]
  exact Qhm
 refine M ?_;refine pz (K8 C.wr k) Z (M ?_);refine og (λU=>?_) (λU=>?_)
 .have e:kN C m k v=m.rst k:=by unfold kN;rw[gg bz,gh W]
  exact Qhn
 have e:kN C m k v = { m with puts:=zj m.puts k,own:=yj m.own ⟨k,v⟩ }:=by unfold kN;rw[gg bz,gg W]
 rw[e];refine M ?_;refine nc (Pf m.puts k hB) (M ?_);refine nc (Ff m.own ⟨k,v⟩ hB2) ?_;exact Qek
theorem qrq(m:RM)(v:AV)(hB:m.out.length+1<=68719476736):APure prog 221 [.agg (m.c C),.agg v.c] (.agg ((qO m v).c C)):=by
 refine od func221 ntmps221 λE h B hh Q hb=>?_;refine nf (λL=>?_) (λL=>?_)
 .have e:qO m v=m.ab 1007:=by unfold qO;rw[gh J]
  rw[e];refine M ?_;refine nc (sS C m 1007) ?_;exact Qek
 have e:qO m v = { m with out:=m.out++[v] }:=by unfold qO;rw[gg J]
 rw[e];exact Qfb
theorem Ms(m:RM):APure prog 191 [.agg (m.c C)] (.agg ((xz m).c C)):=by
 refine od func191 ntmps191 λE h B hh Q hb=>?_;refine nf (λL=>?_) (λL=>?_)
 .have e:xz m=({ m with steps:=p9 (m.steps+1) }:RM).ab 1008:=by unfold xz;rw[gh L]
  rw[e];refine M ?_;refine nc (sS C { m with steps:=p9 (m.steps+1) } 1008) ?_;exact Qek
 have e:xz m = { m with steps:=p9 (m.steps+1) }:=by unfold xz;rw[gg W]
 rw[e];exact Qek
theorem YW(m:RM):APure prog 158 [.agg (m.c C)] (.agg (Eff.c ⟨1,m.code,m.out,m.reads,m.puts,m.own,m.miss,m.steps⟩)):=by refine od func158 ntmps158 λE h B hh Q hb=>?_;exact Qek
theorem Ti(m:RM):APure prog 157 [.agg (m.c C)] (.agg (Eff.c ⟨m.st,m.code,[],m.reads,m.puts,[],m.miss,m.steps⟩)):=by refine od func157 ntmps157 λE h B hh Q hb=>?_;exact Qek
theorem VW:APure prog 153 [] (.agg bI.c):=by refine od func153 ntmps153 λE h B hh Q hb=>?_;simp-dsimp[go_sem,B,bI]
theorem Ho(n:Int):APure prog 250 [I n] (.agg (vI n).c):=by refine od func250 ntmps250 λE h B hh Q hb=>?_;simp-dsimp[go_sem,B,vI]
theorem BD(b:Bool):APure prog 314 [Bo b] (.agg (vB b).c):=by refine od func314 ntmps314 λE h B hh Q hb=>?_;refine M ?_;refine og (λL=>?_) (λL=>?_)<;>subst L<;>simp-dsimp[go_sem,B,vB]
theorem qK(m:RM):APure prog 251 [.agg (m.c C)] (.tuple [.agg AV.nil.c,.agg ((m.ab 1009).c C)]):=by refine od func251 ntmps251 λE h B hh Q hb=>?_;refine M ?_;refine nc (sS C m 1009) ?_;exact Qek
theorem Lu(m:RM)(n e:Int):APure prog 313 [.agg (m.c C),I n,I e] (.tuple [.agg (jC m (n,e)).1.c,.agg ((jC m (n,e)).2.c C)]):=by
 refine od func313 ntmps313 λE h B hh Q hb=>?_;refine nf (λL=>?_) (λL=>?_)
 .have e1:jC m (n,e)=(AV.nil,m.ab 1002):=by unfold jC;rw[gh L]
  rw[e1];refine M ?_;refine nc (sS C m 1002) ?_;exact Qek
 refine nf (λO=>?_) (λO=>?_)
 .have e1:jC m (n,e)=(AV.nil,m.ab 1001):=by unfold jC;rw[gg L,gh O]
  rw[e1];refine M ?_;refine nc (sS C m 1001) ?_;exact Qek
 have e1:jC m (n,e)=(vI n,m):=by unfold jC;rw[gg L,gg J]
 rw[e1];refine M ?_;refine aW 4 mixed ah (M ?_);refine p7 (Ho n) Z (M ?_)
 all_goals try simp[ww,List.zipIdx]
theorem qph(op a b:Int)(ha:i64 a)(rh:i64 b):APure prog 312 [I op,I a,I b] (.tuple [I (mQ op a b).1,I (mQ op a b).2]):=by
 refine od func312 ntmps312 λE h B hh Q hb=>?_;by_cases h4:op=4
 .subst h4;refine M ?_;refine nc (XX a b ha rh) ?_;simp-dsimp[go_sem,B,mQ]
 by_cases h5:op=5
 .subst h5;refine M ?_;refine nc (IX a b ha rh) ?_;simp-dsimp[go_sem,B,mQ]
 by_cases h6:op=6
 .subst h6;refine M ?_;refine nc (Tx a b ha rh) ?_;simp-dsimp[go_sem,B,mQ]
 by_cases h7:op=7
 .subst h7;refine M ?_;refine nc (TX a b ha rh) ?_;simp-dsimp[go_sem,B,mQ]
 simp-dsimp[go_sem,B,h4,h5,h6,h7];refine nc (Xz a b) ?_;simp-dsimp[go_sem,B,mQ,h4,h5,h6,h7]
theorem JC(op c:Int):APure prog 315 [I op,I c] (Bo (gI op c)):=by
 refine od func315 ntmps315 λE h B hh Q hb=>?_;by_cases h10:op=10
 .subst h10;exact Qho
 by_cases h11:op=11
 .subst h11;exact Qho
 by_cases rG:op=12
 .subst rG;exact Qho
 by_cases h13:op=13
 .subst h13;exact Qho
 by_cases h14:op=14
 .subst h14;exact Qho
 simp-dsimp[go_sem,B,gI,h10,h11,rG,h13,h14]
end
def bk:na:=⟨#[107]⟩
def bn:na:=⟨#[110]⟩
def oX:Proc:=⟨⟨#[97,100,100]⟩,[⟨bk,2⟩,⟨bn,1⟩],[.mk 3 em 0 (.mk 3 0 bk []) (.mk 4 0 em [.mk 22 0 em [.mk 3 0 bk []],.mk 3 0 bn []]) [] []]⟩
theorem Q1(k:Nat)(h:k<10):iN (UInt8.ofNat (48+k))=true:=by have:∀k:Fin 10,iN (UInt8.ofNat (48+k.val))=true:=ax;exact this ⟨k,h⟩
theorem RB:∀(u:Nat),∀b∈Lib.decDigits u,iN b=true:=by
 intro u
 induction u using Nat.strongRecOn with
 |ind u ih =>
  intro b hb;rw[Lib.decDigits]at hb;split at hb
  .grind[jx,Q1]
  grind[jx,Q1]
def Sa(n:Int)(hn:i64 n):tv (pw n)=true:=by
 have hl:=Lib.itoa_length_le n hn.1 hn.2;unfold tv;rw[gy,jm,Gr];refine⟨λb hb=>?_,?_⟩
 .have hb:b∈Lib.itoa n:=by simpa[bl,pw]using hb
  unfold Lib.itoa at hb;split at hb
  .rcases iq.1 hb with rfl|hb
   .decide
   grind[RB]
  grind[RB]
 show(((Lib.itoa n).toArray.size:Nat):Int)<=64;rw[qi3];omega
section
variable {tT:TypeId} {tx:Nat×Nat} {g:Nat}
end
section
theorem Dg{α:Type}{f:α->α->Bool}(hf:∀x,f x x=true):∀l,ta f l l=true
 | []=>rfl
 |x::l=>by simp[ta,hf,Dg hf l]
theorem qsg(e:Eff):xK e e=true:=by simp[xK,Dg (f:=bM) (λx=>by simp[bM]),Dg (f:=gY) (λx=>by simp[gY]),Dg (f:=iF) (λx=>by simp[iF,bM])]
variable {tT:TypeId} {tx:Nat×Nat} {g:Nat}
end
section
variable {tT:TypeId} {tx:Nat×Nat} {g:Nat}
def OX(p:Proc)(args:List AV)(ft:Foot):List V:=[my p.name,.slice (p.params.map Param.c),.slice (p.body.map St.c),.slice (args.map AV.c),Bo ft.all,.slice (ft.reads.map ny),.slice (ft.writes.map ny)]
attribute [local go_sem] OX
end
section
def ME(l:List na):APure prog 190 [.slice (l.map ny)] (Bo (cX none l&&decide ((l.length:Int)<=64))):=by
 refine ry func190 ntmps190 λE h B hh Q hb=>?_;refine M ?_;refine po l.length (λn=>cX (zk l n) (l.drop n)=cX none l) (λn=>⟨[(0,.slice (l.map ny)),(3,I n)],h⟩) fj ng ?_;intro n hn z;have hw:=oi hn hb.1;refine nf (λhc=>?_) (λhc=>?_)
 .rw[ov hc,cX]at z;refine Qab ?_;refine pf 19 (Qab ?_);refine p7 (Gh _) Z ?_;cases n with
  |zero =>
   refine M ?_;refine og ?_ ?_<;>intro hg<;>try simp at hg
   .exact Qeh
   exact Qeg
  |succ m =>
   have hm:m<l.length:=J;have uc:=uG (kb hm) hb.1;simp at hw;simp-dsimp[go_sem,B,uc,hm,hc];refine⟨λhk=>⟨hk,J⟩,og (λhg=>?_) (λhg=>?_)⟩<;>rw[QG]at hg<;>simp at hg
   .refine M ?_;rw[<-z];rcases hg with O|O<;>simp[zk,hm,after,O]
   exact Qei
 exact Qej
def qp1(f:Foot):APure prog 152 [.agg f.c] (Bo (vi f.all f.reads f.writes)):=by
 refine od func152 ntmps152 λE h B hh Q hb=>?_;refine M ?_;refine og ?_ ?_<;>intro L<;>try simp at L
 all_goals simp-dsimp[go_sem,B,vi,L]
 refine nc (ME f.reads) (M ?_);refine pz (ME f.writes) Z ?_;simp-dsimp[go_sem,B,vi,L]
variable {tT:TypeId} {tx:Nat×Nat} {g:Nat}
attribute [local go_sem] OX
end
section
attribute [local go_sem] RM.c
variable (C:Cfg)
theorem W5(m:RM)(op:Int)(a b:AV)(ha:r6 a)(rh:r6 b):APure prog 281 [.agg (m.c C),I op,.agg a.c,.agg b.c] (.tuple [.agg (fP m op a b).1.c,.agg ((fP m op a b).2.c C)]):=by
 refine od func281 ntmps281 λE h B hh Q hb=>?_;by_cases hA:op=4\/op=5\/op=6\/op=7\/op=8
 .have e:fP m op a b=if a.k=1/\b.k=1 then jC m (mQ op a.n b.n)else(AV.nil,m.ab 1009):=by unfold fP;rw[gh hA]
  rw[e];rcases hA with rfl|rfl|rfl|rfl|rfl <;>
   .refine M ?_;refine og (λO=>?_) (λO=>?_)
    .exact Qhp
    rw[gh W];refine M ?_;refine nc (qph _ a.n b.n ha.1 rh.1) (M ?_);refine nc (Lu C m _ _) ?_;exact Qek
 have hA':op≠4/\op≠5/\op≠6/\op≠7/\op≠8:=J;obtain⟨n4,n5,n6,n7,n8⟩:=hA';by_cases h16:op=16
 .subst h16;have e:fP m 16 a b=if a.k=3/\b.k=3 then(vB (decide (a.n=1)&&decide (b.n=1)),m)else(AV.nil,m.ab 1009):=by simp[fP]
  rw[e];refine M ?_;refine og (λO=>?_) (λO=>?_)
  .exact Qhp
  rw[gh W];refine M ?_;refine aW 11 mixed ah (M ?_);refine p7 (BD _) Z (M ?_)
  all_goals try simp[ww,List.zipIdx]
 by_cases gA:op=17
 .subst gA;have e:fP m 17 a b=if a.k=3/\b.k=3 then(vB (decide (a.n=1)||decide (b.n=1)),m)else(AV.nil,m.ab 1009):=by simp[fP]
  rw[e];refine M ?_;refine og (λO=>?_) (λO=>?_)
  .exact Qhp
  rw[gh W];refine M ?_;refine aW 11 mixed ah (M ?_);refine p7 (BD _) Z (M ?_)
  all_goals try simp[ww,List.zipIdx]
 by_cases eY:op=19
 .subst eY;have hwid:IntKind.i64.wrap ((a.s.size:Int)+b.s.size)=(a.s.size:Int)+b.s.size:=eU J (by have:=ha.2;have:=rh.2;omega);have hw64:p9 ((a.s.size:Int)+b.s.size)=(a.s.size:Int)+b.s.size:=hwid;have e:fP m 19 a b=if a.k=2/\b.k=2 then(if 64<p9 (a.s.size+b.s.size:Int)then(AV.nil,m.ab 1006)else(vS (a.s++b.s),m))else(AV.nil,m.ab 1009):=by simp[fP]
  rw[hw64]at e;rw[e];simp-dsimp[go_sem,B,hwid];refine og (λO=>?_) (λO=>?_)
  .exact Qhp
  rw[gh W];simp-dsimp[go_sem,B,hwid];refine ox (λU=>?_) (λU=>?_)
  .rw[gh U];refine M ?_;refine nc (sS C m 1006) ?_;exact Qek
  rw[gg J];refine M ?_;refine aW 8 mixed ah ?_;simp-dsimp[go_sem,B,vS]
  try omega
  all_goals try simp[ww,List.zipIdx]
  all_goals try omega
 have e:fP m op a b=if (a.k=1/\b.k=1)\/(a.k=2/\b.k=2)\/(a.k=3/\b.k=3/\(op=10\/op=11))then(vB (gI op (uH a b)),m)else(AV.nil,m.ab 1009):=by grind[fP]
 rw[e];simp-dsimp[go_sem,B,n4,n5,n6,n7,n8,h16,gA,eY]
 repeat refine⟨W,?_⟩
 refine og (λO=>?_) (λO=>?_)
 .exact Qhp
 rw[gh W];refine nf (λU=>?_) (λU=>?_)
 .have e2:uH a b = -1:=by unfold uH;rw[gh U]
  rw[e2];refine M ?_;refine aW 6 mixed ah (M ?_);refine p7 (JC op (-1)) Z (M ?_);refine p7 (BD _) Z (M ?_)
  all_goals try simp[ww,List.zipIdx]
 refine nf (λh3=>?_) (λh3=>?_)
 .have e2:uH a b=1:=by unfold uH;rw[gg W,gg (by grind[bM])]
  rw[e2];refine M ?_;refine aW 6 mixed ah (M ?_);refine p7 (JC op 1) Z (M ?_);refine p7 (BD _) Z (M ?_)
  all_goals try simp[ww,List.zipIdx]
 have e2:uH a b=0:=by unfold uH;rw[gg W,gh (by grind[bM])]
 rw[e2];refine M ?_;refine aW 6 mixed ah (M ?_);refine p7 (JC op 0) Z (M ?_);refine p7 (BD _) Z (M ?_)
 all_goals try simp[ww,List.zipIdx]
theorem WD(m:RM)(op:Int)(a:AV)(ha:r6 a)(hF:∀n,i64 n->APure prog 317 [I n] (my (C.fmt n)))(hB:m.reads.length+1<=68719476736):APure prog 282 [.agg (m.c C),I op,.agg a.c] (.tuple [.agg (bR C m op a).1.c,.agg ((bR C m op a).2.c C)]):=by
 refine od func282 ntmps282 λE h B hh Q hb=>?_;have hw:(∀X:Prop,X->X):=λ_ h=>h;by_cases h9:op=9
 .subst h9;have e:bR C m 9 a=if a.k≠1 then(AV.nil,m.ab 1009)else jC m (eF a.n):=qg7;rw[e];refine M ?_;refine og (λO=>?_) (λO=>?_)
  .exact Qhq
  rw[gg W];refine M ?_;refine nc (LX a.n ha.1) (M ?_);refine nc (Lu C m _ _) ?_;exact Qek
 by_cases eJ:op=18
 .subst eJ;have e:bR C m 18 a=if a.k≠3 then(AV.nil,m.ab 1009)else(vB (decide (a.n=0)),m):=qg7;rw[e];refine M ?_;refine og (λO=>?_) (λO=>?_)
  .exact Qhq
  rw[gg W];refine M ?_;refine aW 6 mixed ah (M ?_);refine p7 (BD _) Z (M ?_)
  all_goals try simp[ww,List.zipIdx]
 by_cases jJ:op=20
 .subst jJ;have e:bR C m 20 a=if a.k≠1 then(AV.nil,m.ab 1009)else(vS (C.fmt a.n),m):=qg7;rw[e];refine M ?_;refine og (λO=>?_) (λO=>?_)
  .exact Qhq
  rw[gg W];refine M ?_;refine aW 6 mixed ah (M ?_);refine p7 (hF a.n ha.1) Z ?_;simp-dsimp[go_sem,B,vS]
  all_goals try simp[ww,List.zipIdx]
 by_cases h21:op=21
 .subst h21;have e:bR C m 21 a=if a.k≠2 then(AV.nil,m.ab 1009)else(vI a.s.size,m):=qg7;rw[e];refine M ?_;refine og (λO=>?_) (λO=>?_)
  .exact Qhq
  rw[gg W];refine M ?_;refine aW 6 mixed ah (M ?_);refine p7 (Ho a.s.size) Z (M ?_)
  all_goals try simp[ww,List.zipIdx]
 have e:bR C m op a=if a.k≠2 then(AV.nil,m.ab 1009)else
   if (u7 C m a.s).2.st≠0 then(AV.nil,(u7 C m a.s).2)
   else if op=24 then(vB (!decide ((u7 C m a.s).1.k=0)),(u7 C m a.s).2)
   else if (u7 C m a.s).1.k=0 then(⟨if op=23 then 2 else 1,0,em⟩,(u7 C m a.s).2)
   else if (u7 C m a.s).1.k≠(if op=23 then 2 else 1)then(AV.nil,(u7 C m a.s).2.ab 1003)
   else((u7 C m a.s).1,(u7 C m a.s).2):=by
  grind[bR,xW]
 rw[e];simp-dsimp[go_sem,B,h9,eJ,jJ,h21];refine og (λO=>?_) (λO=>?_)
 .exact Qhq
 rw[gg W];simp-dsimp[go_sem,B,h9,eJ,jJ,h21];refine nc (SN C m a.s hB) ?_;obtain⟨x,hx⟩:=Qaj (u7 C m a.s)
 obtain⟨v,t⟩:=x;simp only[hx];refine M ?_;refine nc (yR C t) ?_;refine nf (λU=>?_) (λU=>?_)
 .rw[gh U];refine M ?_;refine aW 3 mixed ah ?_;simp-dsimp[go_sem,B,AV.nil]
  all_goals try simp[ww,List.zipIdx]
 rw[gg fy];refine nf (λh3=>?_) (λh3=>?_)
 .rw[gh h3];refine M ?_;refine aW 6 mixed ah (M ?_);refine p7 (BD _) Z (M ?_)
  all_goals try simp[ww,List.zipIdx]
 rw[gg h3];refine M ?_;by_cases h23:op=23
 .subst h23;refine nf (λh4=>?_) (λh4=>?_)
  .rw[gh h4];refine M ?_;refine aW 4 mixed ah (M ?_)
   all_goals try simp[ww,List.zipIdx]
  rw[gg h4];refine nf (λh5=>?_) (λh5=>?_)
  .exact Qhr
  rw[gg J];refine M ?_;refine aW 3 mixed ah (M ?_)
  all_goals try simp[ww,List.zipIdx]
 simp-dsimp[go_sem,B,h23];refine ox (λh4=>?_) (λh4=>?_)
 .rw[gh h4];simp-dsimp[go_sem,B,h23];refine aW 4 mixed ah ?_;simp-dsimp[go_sem,B,h23]
  all_goals try simp[ww,List.zipIdx]
 rw[gg h4];refine nf (λh5=>?_) (λh5=>?_)
 .exact Qhr
 rw[gg J];refine M ?_;refine aW 3 mixed ah (M ?_)
 all_goals try simp[ww,List.zipIdx]
theorem T5(m:RM)(op:Int)(l:List AV)(hl:∀v∈l,r6 v)(hF:∀n,i64 n->APure prog 317 [I n] (my (C.fmt n)))(hB:m.reads.length+1<=68719476736):APure prog 253 [.agg (m.c C),I op,.slice (l.map AV.c)] (.tuple [.agg (qB C m op l).1.c,.agg ((qB C m op l).2.c C)]):=by
 refine od func253 ntmps253 λE h B hh Q hb=>?_;rcases l with _|⟨a,_|⟨b,_|⟨c,r⟩⟩⟩
 .rw[show qB C m op []=(AV.nil,m.ab 1009)from rfl];exact Qhs
 .rw[show qB C m op [a]=bR C m op a from rfl];refine M ?_;refine pf 8 (M ?_);refine p7 (WD C m op a (hl a Z) hF hB) (λ_=>trivial) ?_;simp-dsimp[go_sem,B]
  all_goals try simp[ww,List.zipIdx]
 .rw[show qB C m op [a,b]=fP m op a b from rfl];refine M ?_;refine pf 11 (M ?_);refine p7 (W5 C m op a b (hl a Z) (hl b Z)) (λ_=>trivial) ?_;simp-dsimp[go_sem,B]
  all_goals try simp[ww,List.zipIdx]
 rw[show qB C m op (a::b::c::r)=(AV.nil,m.ab 1009)from rfl];refine nf (λO=>?_) (λO=>?_)
 .omega
 refine nf (λO=>?_) (λO=>?_)
 .omega
 exact Qhs
end
section
attribute [local go_sem] RM.c
variable (C:Cfg) (hC:bU C) (hf:∀n,i64 n->tv (C.fmt n)=true) (hF:∀n,i64 n->APure prog 317 [I n] (my (C.fmt n)))
abbrev WA:List V:=[.nils,Bo false,.nils,.nils,.nils,.nils,I 0,I 0,.nils,.nils,.nils,.nils,my em,I 0]
include hC hf hF
theorem U3(e:Ex)(m:RM)(r p:Nat)(hX:zb e)(qI:RInv (r+nodes e) p m)(hm:m.st=0)
  (hEA:∀a∈e.args,∀(m:RM) (r p:Nat),zb a->RInv (r+nodes a) p m->m.st=0->APure prog 219 [.agg (m.c C),.agg a.x] (.tuple [.agg (pm C a m).1.c,.agg ((pm C a m).2.c C)])) :
  APure prog 219 [.agg (m.c C),.agg e.x] (.tuple [.agg (pm C e m).1.c,.agg ((pm C e m).2.c C)]):=by
 refine od func219 ntmps219 λE h B hh Q hb=>?_;have iC:=(xM _).1 hX;simp[go_sem]at hb;rw[qrt];refine nf (λO=>?_) (λO=>?_)
 .rw[gh O];refine M ?_;refine aW 5 mixed ah (M ?_);refine p7 (Ho e.n) Z (M ?_)
  all_goals try simp[ww,List.zipIdx]
 rw[gg O];refine nf (λU=>?_) (λU=>?_)
 .rw[gh U];refine M ?_;refine aW 5 mixed ah ?_;simp-dsimp[go_sem,B,vS]
  all_goals try simp[ww,List.zipIdx]
 rw[gg U];refine nf (λh3=>?_) (λh3=>?_)
 .rw[gh h3];refine M ?_;refine nc (JT m.vars e.s) ?_;refine nf (λh4=>?_) (λh4=>?_)
  .rw[gg (by simp[h4])];exact Qhs
  rw[gh h4];refine M ?_;refine aW 7 mixed ah (M ?_);refine p7 (J9 m.vars e.s) Z (M ?_)
  all_goals try simp[ww,List.zipIdx]
 rw[gg h3];refine M ?_;have hn:=Cm e;refine u4 (α:=List AV×RM) e.args.length (λn a=>a.1.length=n/\(∀v∈a.1,r6 v)/\a.2.st=0/\RInv (r+1+lM (e.args.drop n)) p a.2/\cF C e.args m=(a.1++(cF C (e.args.drop n) a.2).1,(cF C (e.args.drop n) a.2).2))
  (λn a=>⟨[(2,P0 h.length),(3,P0 (h.length+1)),(4,P0 (h.length+2)),(5,P0 (h.length+3)),(6,.own (h.length+4) a.1.length),(7,I n)],h++[.cells (a.2.c C),.cells e.x,.cells [I 0,I 0,my em],.cells WA,.arr 57 3 (a.1.map AV.c)]⟩)
  ([],m) ⟨rfl,Z,hm,by simpa using qI.mono J (gj _),Z⟩ ((mF E _ 6 57 3 af).trans ?_) ?_
 .simp;exact ng
 rintro n ⟨nw,mm⟩ lC ⟨kM,lE,qX,nC,z⟩;dsimp only at kM lE qX nC z;have hw:=oi lC (show _<=68719476736 by first|exact hb.2.1|exact hb.2|exact hb.1|omega);refine nf (λhc=>?_) (λhc=>?_)
 .rw[ov hc]at z nC;rw[CP]at nC;rw[cF]at z;have hRI':RInv ((r+1+lM (e.args.drop (n+1)))+nodes e.args[n]) p mm:=nC.mono J (gj _);have hE:=BV hC hf e.args[n] mm _ p (iC.2 _ (ij hc)) hRI' qX;refine Qab ?_;refine aW 13 mixed ah (Qab ?_);refine p7 (hEA e.args[n] (ij hc) mm _ p (iC.2 _ (ij hc)) hRI' qX) Z ?_;obtain⟨x,hx⟩:=Qaj (pm C e.args[n] mm)
  obtain⟨v,t⟩:=x;simp only[hx]at z hE|-;refine M ?_;refine⟨qgk,?_⟩;refine nc (yR C t) ?_;refine nf (λh4=>?_) (λh4=>?_)
  .rw[gh h4]at z;rw[z,gh h4];refine M ?_;refine aW 3 mixed ah ?_;simp-dsimp[go_sem,B,AV.nil]
   all_goals try simp[ww,List.zipIdx]
  rw[gg (by simp[h4])]at z;have eH:=hE h4;refine Qaa ?_;refine⟨J,hc,nw++[v],t,⟨by simp[kM],?_,h4,eH.1,?_⟩,ng⟩
  .grind
  grind
 rw[gq J,cF]at z;simp only[jv]at z;rw[z,gg (by simp[qX])];refine M ?_;have rB:=nC.lenR;refine nc (T5 C mm e.op nw lE hF J) ?_;exact Qek
theorem H7(e:Ex)(m:RM)(r p:Nat)(hX:zb e)(qI:RInv (r+nodes e) p m)(hm:m.st=0):APure prog 219 [.agg (m.c C),.agg e.x] (.tuple [.agg (pm C e m).1.c,.agg ((pm C e m).2.c C)]) :=
 U3 C hC hf hF e m r p hX qI hm (λa ha m' r' p' hXa hIa hma=>by have ni:SizeOf.sizeOf a<SizeOf.sizeOf e:=Ex.arg_lt ha;exact H7 a m' r' p' hXa hIa hma)
termination_by SizeOf.sizeOf e
end
abbrev zRL:List V:=[.nils,Bo false,.nils,.nils,.nils,.nils,I 0,I 0,.nils,.nils,.nils,.nils,my em,I 0]
section
attribute [local go_sem] RM.c
variable (C:Cfg) (hC:bU C) (hf:∀n,i64 n->tv (C.fmt n)=true) (hF:∀n,i64 n->APure prog 317 [I n] (my (C.fmt n)))
include hC hf hF
theorem Vp(s:St)(a b:Int)(m:RM)(ha:i64 a)(rh:i64 b)(qI:RInv 0 0 m)(hm:m.st=0)
  (hBd:∀m,RInv 0 0 m->m.st=0->APure prog 155 [.agg (m.c C),.slice (s.body.map St.c)] (.agg ((u6 C s.body m).c C)))
  (hBi:∀m,RInv 0 0 m->m.st=0->(u6 C s.body m).st=0->RInv 0 0 (u6 C s.body m)) :
  APure prog 222 [.agg (m.c C),.agg s.x,I a,I b] (.agg ((if a<b/\((aE b a).2≠0\/s.max<(aE b a).1)then m.ab 1005 else fC (u6 C s.body) s.name b (b - a).toNat a m).c C)):=by
 refine ry func222 ntmps222 λE h B hh Q hb=>?_;obtain⟨R,hR⟩:∃R,(if a<b/\((aE b a).2≠0\/s.max<(aE b a).1)then m.ab 1005 else fC (u6 C s.body) s.name b (b - a).toNat a m)=R:=⟨_,rfl⟩
 rw[hR];refine M ?_;refine nc (IX b a rh ha) (M ?_);refine⟨W,?_⟩;refine og (λO=>?_) (λO=>?_)
 .rw[gh W]at hR;subst hR;refine M ?_;refine nc (sS C m 1005) ?_;exact Qek
 rw[gg W]at hR;refine M ?_;have sW:b - a<18446744073709551616:=by have:=ha.1;have:=rh.2;omega
 refine u4 (α:=RM) (b - a).toNat (λn mm=>(mm.st=0->RInv 0 0 mm)/\fC (u6 C s.body) s.name b ((b - a).toNat - n) (a+n) mm=R)
  (λn mm=>⟨[(3,I b),(4,P0 h.length),(5,P0 (h.length+1)),(8,P0 (h.length+2)),(11,I (a+n))],h++[.cells (mm.c C),.cells s.x,.cells zRL]⟩) m ⟨λ_=>qI,by simpa using hR⟩ ng ?_
 rintro n mm hn ⟨nC,z⟩;refine M ?_;refine pz (yR C mm) Z ?_;refine nf (λhc=>?_) (λhc=>?_)
 .have ni:n<(b - a).toNat:=J;have hif:i64 (a+n):=⟨by have:=ha.1;omega,by have:=rh.2;omega⟩
  have hw:IntKind.i64.wrap (a+(n:Int)+1)=a+((n+1:Nat):Int):=by rw[eU (by have:=ha.1;omega) (by have:=rh.2;omega)];omega
  have nC:=nC hc.2;have hcast:a+((n:Int)+1)=a+((n+1:Nat):Int):=J;obtain⟨f,hfu⟩:∃f,(b - a).toNat - n=f+1:=⟨(b - a).toNat - n - 1,J⟩
  have hfu2:(b - a).toNat - (n+1)=f:=J;have Eb:=Ms C mm;have hTi:=λU=>GS nC U;rw[hfu,fC,gh ⟨J,hc.2⟩,show p9 (a+(n:Int)+1)=a+((n+1:Nat):Int)from hw]at z;obtain⟨T,hTe⟩:=Qaj (xz mm)
  rw[hTe]at z Eb hTi;have hTr:=yR C T;refine M ?_;refine nc Eb (M ?_);refine nc hTr ?_;refine nf (λU=>?_) (λU=>?_)
  .have hT:=hTi U;have hV:=hT.var (p:=0) (oV hif) s.name;have hlv:=hT.lenV;rw[gh U]at z;have eX:=Ff T.vars ⟨s.name,vI (a+n)⟩ J;have hV0:=hV.mono (il _) (gj _);have pR:=hBd _ hV0 U;have hB2:=hBi _ hV0 U;obtain⟨AV,hVe⟩:=Qaj (yj T.vars ⟨s.name,vI (a+n)⟩)
   rw[hVe]at eX;simp only[hVe]at pR hB2 z;obtain⟨hN,hBe⟩:∃hN,u6 C s.body { T with vars:=AV }=hN:=⟨_,rfl⟩
   simp only[hBe]at pR hB2 z;simp only[RM.c]at pR;refine M ?_;refine pf 7 (M ?_);refine p7 (Ho (a+n)) Z (M ?_);refine nc eX (M ?_);refine nc pR (Qaa ?_);have vT:(n:Int)<b - a:=J;refine⟨vT,hN,⟨hB2,?_⟩,?_⟩
   .grind
   exact ng
  rw[gg U]at z;refine Qaa ?_;refine⟨J,T,⟨λh3=>absurd h3 U,by rw[hfu2,hcast];exact z⟩,ng⟩
 have he:fC (u6 C s.body) s.name b ((b - a).toNat - n) (a+n) mm=mm:=by
  by_cases U:mm.st=0
  .grind[HA]
  grind[EU]
 rw[he]at z;exact Qes
end
section
attribute [local go_sem] RM.c
variable (C:Cfg) (hC:bU C) (hf:∀n,i64 n->tv (C.fmt n)=true) (hF:∀n,i64 n->APure prog 317 [I n] (my (C.fmt n)))
include hC hf hF
theorem qns(t:St)(d:Nat)(m:RM)(pg:aC t d)(hg:aR t)(qI:RInv 8192 1 m)(hm:m.st=0)
  (pR:∀m,RInv 0 0 m->m.st=0->APure prog 155 [.agg (m.c C),.slice (t.body.map St.c)] (.agg ((u6 C t.body m).c C)))
  (hB2:∀m,RInv 0 0 m->m.st=0->APure prog 155 [.agg (m.c C),.slice (t.els.map St.c)] (.agg ((u6 C t.els m).c C))) :
  APure prog 192 [.agg (m.c C),.agg t.x] (.agg ((oD C t m).c C)):=by
 refine od func192 ntmps192 λE h B hh Q hb=>?_;have zi:=(dZ _ _).1 pg;have pa:=(uO _).1 hg;have p8:=D6 pg;simp[go_sem]at hb;obtain⟨R,hR⟩:=Qaj (oD C t m)
 rw[hR];rw[RG]at hR;refine nf (λh8=>?_) (λh8=>?_)
 .rw[gh h8]at hR;subst hR;refine M ?_;refine nc (sS C m t.max) ?_;exact Qek
 rw[gg h8]at hR;have hgx:=pa.1 h8;have eC:RInv (4097+nodes t.a) 1 m:=qI.mono (by have:=hgx.2;omega) (gj _);have hEv:=H7 C hC hf hF t.a m 4097 1 hgx.1 eC hm;have hA:=BV hC hf t.a m 4097 1 hgx.1 eC hm;obtain⟨x,hx⟩:=Qaj (pm C t.a m)
 obtain⟨u,m1⟩:=x;simp only[hx]at hA hR hEv;refine M ?_;refine nc hEv (M ?_);refine nc (yR C m1) ?_;refine nf (λO=>?_) (λO=>?_)
 .rw[gh O]at hR;exact Qeu
 rw[gg dq]at hR;have hA:=hA O;have hA0:=hA.1.mono (il _) (il _);have hlv:=hA.1.lenV;have hlp:=hA.1.lenP;have hlo:=hA.1.lenO;have ni:=hA.1.ot;by_cases ho:t.op=1\/t.op=2
 .rw[gh ho]at hR;subst hR;rcases ho with ho|ho <;>
  .simp-dsimp[go_sem,B,ho];refine nc (Ff m1.vars ⟨t.name,u⟩ J) ?_;simp-dsimp[go_sem,B,ho]
 have si:t.op≠1/\t.op≠2:=J;rw[gg ho]at hR;by_cases h4:t.op=4
 .rw[gh h4]at hR;subst hR;simp-dsimp[go_sem,B,h4];refine nc (MJ C m1 u.s AV.nil J J) ?_;exact Qek
 rw[gg h4]at hR;by_cases h7:t.op=7
 .rw[gh h7]at hR;subst hR;simp-dsimp[go_sem,B,h7];refine nc (qrq C m1 u J) ?_;exact Qek
 rw[gg h7]at hR;by_cases h5:t.op=5
 .rw[gh h5]at hR;simp-dsimp[go_sem,B,h5];refine ox (λU=>?_) (λU=>?_)
  .rw[gh U]at hR;subst hR;refine M ?_;refine nc (pR m1 hA0 O) ?_;exact Qek
  rw[gg U]at hR;subst hR;refine M ?_;refine nc (hB2 m1 hA0 O) ?_;exact Qek
 rw[gg h5]at hR;have h36:t.op=3\/t.op=6:=J;have hgb:=pa.2.1 h36;have za:RInv (0+nodes t.b) 1 m1:=hA.1.mono (by have:=hgb.2;omega) (gj _);have hEv2:=H7 C hC hf hF t.b m1 0 1 hgb.1 za O;have hB:=BV hC hf t.b m1 0 1 hgb.1 za O;obtain⟨y,hy⟩:=Qaj (pm C t.b m1)
 obtain⟨v,m2⟩:=y;simp only[hy]at hB hR hEv2;simp-dsimp[go_sem,B,si.1,si.2,h4,h7,h5];refine nc hEv2 (M ?_);refine nc (yR C m2) ?_;refine nf (λU=>?_) (λU=>?_)
 .rw[gh U]at hR;exact Qeu
 rw[gg fy]at hR;have hB:=hB U;have hlp2:=hB.1.lenP;have hlo2:=hB.1.lenO;by_cases h3:t.op=3
 .rw[gh h3]at hR;subst hR;simp-dsimp[go_sem,B,h3];refine nc (MJ C m2 u.s v J J) ?_;exact Qek
 rw[gg h3]at hR;have hlp3:=Vp C hC hf hF t u.n v.n m2 hA.2.1 hB.2.1 (hB.1.mono (il _) (il _)) U pR (λm hm L h3=>EK hC hf t.body (d+1) m zi.2.1 pa.2.2.1 hm L h3);rw[hR]at hlp3;simp-dsimp[go_sem,B,h3];refine nc hlp3 ?_;exact Qek
end
abbrev V9:List V:=[.nils,Bo false,.nils,.nils,.nils,.nils,I 0,I 0,.nils,.nils,.nils,.nils,my em,I 0]
section
attribute [local go_sem] RM.c
variable (C:Cfg) (hC:bU C) (hf:∀n,i64 n->tv (C.fmt n)=true) (hF:∀n,i64 n->APure prog 317 [I n] (my (C.fmt n)))
include hC hf hF
theorem Vz(l:List St)(d:Nat)(m:RM)(pg:eZ l d)(hg:∀x∈l,aR x)(qI:RInv 0 0 m)(hm:m.st=0)
  (hS:∀x∈l,∀m,RInv 8192 1 m->m.st=0->APure prog 192 [.agg (m.c C),.agg x.x] (.agg ((oD C x m).c C))) :
  APure prog 155 [.agg (m.c C),.slice (l.map St.c)] (.agg ((u6 C l m).c C)):=by
 refine ry func155 ntmps155 λE h B hh Q hb=>?_;obtain⟨R,hR⟩:=Qaj (u6 C l m)
 rw[hR];refine M ?_;refine u4 (α:=RM) l.length (λn mm=>(mm.st=0->RInv 0 0 mm)/\u6 C (l.drop n) mm=R)
  (λn mm=>⟨[(1,.slice (l.map St.c)),(2,P0 h.length),(4,P0 (h.length+1)),(5,I n)],h++[.cells (mm.c C),.cells V9]⟩) m ⟨λ_=>qI,by simpa using hR⟩ ng ?_
 rintro n mm hn ⟨nC,z⟩;have hw:=oi hn (show _<=68719476736 by first|exact hb.2.1|exact hb.2|exact hb.1|omega);refine M ?_;refine pz (yR C mm) Z ?_;refine nf (λhc=>?_) (λhc=>?_)
 .have nC:=nC hc.2;have tg:n<l.length:=J;have Eb:=Ms C mm;have hTi:=λU=>GS nC U;rw[ov tg,u6,gg J]at z;obtain⟨T,hTe⟩:=Qaj (xz mm)
  rw[hTe]at z Eb hTi;have hTr:=yR C T;refine M ?_;refine nc Eb (M ?_);refine nc hTr ?_;refine nf (λU=>?_) (λU=>?_)
  .have hT:=hTi U;rw[gh U]at z;have hS1:=hS l[n] (ij tg) T hT U;have hS2:=No hC hf l[n] d T (pg _ (ij tg)) (hg _ (ij tg)) hT U;obtain⟨hN,hBe⟩:=Qaj (oD C l[n] T)
   rw[hBe]at z hS1 hS2;simp only[RM.c]at hS1;simp-dsimp[go_sem,B,tg];refine pf 5 ?_;simp-dsimp[go_sem,B,tg];refine nc hS1 (Qaa ?_);refine⟨hN,⟨hS2,z⟩,ng⟩
  rw[gg U]at z;refine Qaa ?_;refine⟨tg,_,⟨λh3=>absurd h3 U,z⟩,ng⟩
 have he:u6 C (l.drop n) mm=mm:=by
  by_cases U:mm.st=0
  .grind[gq,u6]
  grind[Di]
 rw[he]at z;exact Qes
mutual
theorem V2(t:St)(d:Nat)(m:RM)(pg:aC t d)(hg:aR t)(qI:RInv 8192 1 m)(hm:m.st=0):APure prog 192 [.agg (m.c C),.agg t.x] (.agg ((oD C t m).c C)):=by have aA:SizeOf.sizeOf t.body<SizeOf.sizeOf t:=St.body_le t;have zy:SizeOf.sizeOf t.els<SizeOf.sizeOf t:=St.els_le t;have zi:=(dZ _ _).1 pg;have pa:=(uO _).1 hg;exact qns C hC hf hF t d m pg hg qI hm (λm1 hA O=>IU t.body (d+1) m1 zi.2.1 pa.2.2.1 hA O) (λm1 hA O=>IU t.els (d+1) m1 zi.2.2 pa.2.2.2 hA O)
termination_by SizeOf.sizeOf t
theorem IU(l:List St)(d:Nat)(m:RM)(pg:eZ l d)(hg:∀x∈l,aR x)(qI:RInv 0 0 m)(hm:m.st=0):APure prog 155 [.agg (m.c C),.slice (l.map St.c)] (.agg ((u6 C l m).c C)) :=
 Vz C hC hf hF l d m pg hg qI hm (λx hx m1 eC O=>by have ni:SizeOf.sizeOf x<SizeOf.sizeOf l:=km hx;exact V2 x d m1 (pg _ hx) (hg _ hx) eC O)
termination_by SizeOf.sizeOf l
end
end
