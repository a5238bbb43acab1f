/- Part 18 of a proof. -/
import Derived.Test.YtolejdhnnchfpaaGreatDoorRows
import Derived.KernelRfl
import Derived.Test.YtolejdhnnchfpaaGreatDoorCards
import Derived.Test.YtolejdhnnchfpaaGreatDoorTie
import Derived.ProofKit
import Derived.OpenShut
import Derived.Carry
import Derived.Deep.DeepHandedRow
import Derived.Lib.LaidTab
import Derived.Stop.LaidErr
import Derived.Test.YtolejdhnnchfpaaGreatDoorR07
import Derived.Test.YtolejdhnnchfpaaGreatDoorR17
set_option linter.all false
set_option maxRecDepth 100000
set_option maxHeartbeats 4000000
namespace Go.Proofs.YtolejdhnnchfpaaGreatDoor
open Go Go.Abs Go.Cw Go.Proofs.Tryz
theorem ML{op:Int}(h:1<=op/\op<=8):vz op=(fA op,true):=by have:op=1\/op=2\/op=3\/op=4\/op=5\/op=6\/op=7\/op=8:=J;rcases this with rfl|rfl|rfl|rfl|rfl|rfl|rfl|rfl<;>rfl
def qln{op:Int}(h:op<1\/8<op):(vz op).2=false:=by grind[vz]
def qms{s:St}{d:Int}(Q:vz s.op=(fA s.op,true))(hs:fG s (fA s.op)=true):bW s d=if (fA s.op).name=true/\kJ s.name=false then 7
  else if (fA s.op).a=true/\te s.a 1≠0 then te s.a 1 else if (fA s.op).b=true/\te s.b 1≠0 then te s.b 1 else if 12<d then 2 else 0:=by
 grind[bW]
def X4(s:St)(d:Int):APure prog 212 [.agg s.x,I d] (I (bW s d)):=by
 refine od func212 ntmps212 λE h B hh Q hb=>?_;refine M ?_;refine nc (qpn s.op) (M ?_);obtain⟨u,Q⟩:=Qaj (fA s.op)
 rw[Q]
 repeat refine⟨W,?_⟩
 refine pz (Eg s.a) Z (M ?_)
 repeat refine⟨W,?_⟩
 refine pz (Eg s.b) Z (M ?_)
 repeat refine⟨W,?_⟩
 refine og (λL=>?_) (λL=>?_)
 .have nl:(vz s.op).2=false\/fG s (vz s.op).1=false:=by
   by_cases G:s.op<1\/8<s.op
   .exact .inl (qln G)
   grind[ML,fG]
  refine M ?_;grind[bW]
 have G:1<=s.op/\s.op<=8:=W;have hk:=ML G;rw[Q]at hk;refine M ?_
 repeat refine⟨W,?_⟩
 refine og (λO=>?_) (λO=>?_)
 .have nl:(vz s.op).2=false\/fG s (vz s.op).1=false:=by
   grind[fG]
  refine M ?_;grind[bW]
 have hs:fG s u=true:=by
  simp at L O;simp only[fG,gy];refine⟨?_,?_⟩
  .simp[em];grind
  grind
 have hE:=qms (s:=s) (d:=d) (by rw[hk,Q]) W;rw[Q]at hE;obtain⟨R,hR⟩:=Qaj (bW s d)
 rw[hR]at hE|-;refine M ?_;refine pz (GQ s.name) Z (M ?_);refine og (λU=>?_) (λU=>?_)
 .exact Qee
 rw[gg W]at hE;refine M ?_;refine og (λh3=>?_) (λh3=>?_)
 .refine M ?_;refine nc (FV s.a) ?_;refine nf (λh4=>?_) (λh4=>?_)
  .exact Qee
  rw[gg (λg=>g.2 h4)]at hE;refine M ?_;refine og (λh5=>?_) (λh5=>?_)
  .refine M ?_;refine nc (FV s.b) ?_;refine nf (λh6=>?_) (λh6=>?_)
   .exact Qee
   exact Qht
  exact Qhu
 rw[gg (by simp[h3])]at hE;refine M ?_;refine og (λh5=>?_) (λh5=>?_)
 .refine M ?_;refine nc (FV s.b) ?_;refine nf (λh6=>?_) (λh6=>?_)
  .exact Qee
  exact Qht
 exact Qhu
def qkm(l:List Param):APure prog 210 [.slice (l.map Param.c)] (I (tM l)):=by
 refine od func210 ntmps210 λE h B hh Q hb=>?_;unfold tM;simp[go_sem]at hb;refine nf (λL=>?_) (λL=>?_)
 .exact Qfb
 refine M ?_;rw[gg J];refine po l.length (λn=>rV (l.take n) (l.drop n)=rV [] l) (λn=>⟨[(0,.slice (l.map Param.c)),(3,I n)],h⟩) Z ng ?_;intro n hn z;have hw:=oi hn hb.1;refine nf (λhc=>?_) (λhc=>?_)
 .rw[ov hc,rV]at z;refine Qab ?_;refine nc (GQ _) ?_;refine nf (λO=>?_) (λO=>?_)
  .exact Qee
  refine Qab ?_
  repeat refine⟨W,?_⟩
  refine og (λU=>?_) (λU=>?_)
  .exact Qee
  have cY:¬(l[n].ty<1\/3<l[n].ty):=W;rw[gg dq,gg cY]at z;refine M ?_;obtain⟨f,hf⟩:∃f:Param->Bool,f=λq=>decide (q.name=l[n].name):=⟨_,rfl⟩
  rw[<-hf]at z;refine po n (λk=>ut f ((l.take n).drop k)=ut f (l.take n)) (λk=>⟨[(0,.slice (l.map Param.c)),(3,I n),(4,I k)],h⟩) Z ng ?_;intro k hk hJ;have hwk:=oi hk (show _<=68719476736 by omega);refine nf (λiY=>?_) (λiY=>?_)
  .have hkl:k<l.length:=J;have hkt:k<(l.take n).length:=au;rw[ov hkt,ut]at hJ;have het:(l.take n)[k]=l[k]:=Z;rw[het]at hJ;refine pf 10 ?_;simp-dsimp[go_sem,B,hkl,hc];refine ox (λhg=>?_) (λhg=>?_)
   .exact Qee
   simp-dsimp[go_sem,B,hwk];have:f l[k]=false:=W;exact⟨iY,by simpa[this]using hJ,ng⟩
  have hkn:k=n:=J;subst hkn;rw[gq W,ut]at hJ;refine Qaa ?_;refine⟨hc,?_,ng⟩
  simp_all
 rw[gq J,rV]at z;exact Qem
def Fc(e:Ex)(r:Bool)(out:List Vt)(h:out.length<=401):(bN e r out).length<=401:=by
 rw[Jj];split
 .exact h
 exact(FY (eR (σ:=Unit)) tz e.args _ () au).1
mutual
theorem BZ:∀(e:Ex) (r:Bool) (out:List Vt),out.length<=(bN e r out).length
 | .mk op n s args,r,out=>by
  rw[bN];split
  .simp
  have:=My args (out++[Vt.ofE (.mk op n s args) r]);simp at this;omega
theorem My:∀(l:List Ex) (out:List Vt),out.length<=(iG l out).length
 | [],out=>by rw[iG];exact gj _
 |e::l,out=>by
  rw[iG];split
  .have O:=BZ e false out;have U:=My l (bN e false out);omega
  simp
end
def SJ(e:Ex)(out:List Vt):out.length<=(cR e out).length:=by grind[BZ,cR]
mutual
theorem Yh:∀(t:St) (d:Nat) (out:List Vt),out.length<=(Cw.wkS t d out).length
 | .mk _ _ _ a b body els,d,out=>by rw[Cw.wkS];have O:=SJ a out;have U:=SJ b (cR a out);have h3:=tN body (d+1) (cR b (cR a out));have h4:=tN els (d+1) (xm body (d+1) (cR b (cR a out)));omega
theorem tN:∀(l:List St) (d:Nat) (out:List Vt),out.length<=(xm l d out).length
 | [],d,out=>by rw[xm];exact gj _
 |t::l,d,out=>by
  rw[xm];split
  .have O:=Yh t d (out++[Vt.ofS t d]);have U:=tN l d (Cw.wkS t d (out++[Vt.ofS t d]));grind
  simp
end
def Aa(l:List St)(d:Nat)(out:List Vt)(h:out.length<=401):(xm l d out).length<=401:=(D2 (eR (σ:=Unit)) tz l d out () h).1
section
theorem PE:Ex.z.op=0:=rfl
theorem Nz:Ex.z.n=0:=rfl
theorem MV:Ex.z.s=em:=rfl
theorem PW:Ex.z.args=[]:=rfl
def UI:St.z.op=0:=rfl
def UN:St.z.name=em:=rfl
def WQ:St.z.max=0:=rfl
def XU:St.z.a=Ex.z:=rfl
def Z6:St.z.b=Ex.z:=rfl
def WS:St.z.body=[]:=rfl
def qsp:St.z.els=[]:=rfl
attribute [local go_sem] Vt.c Vt.ofS Vt.ofE PE Nz MV PW UI UN WQ XU Z6 WS qsp
def F7(e:Ex)(r:Bool)(out:List Vt)(h:mz)(i:Nat)(hi:h[i]?=some (.uarr 260 20 (out.map Vt.c)))(hl:out.length<=401) :
  ACalls prog 276 [.own i out.length,.agg e.x,Bo r] h λq Y=>q=.ret (.own i (bN e r out).length)/\Y=h.set i (.uarr 260 20 ((bN e r out).map Vt.c)):=by
 refine cD func276 ntmps276 λE B hh Q hb nl qb=>?_;have tq:i<h.length:=(gn.1 hi).1;have a1:∀l:mz,(h++l)[i]?=h[i]?:=λl=>gu tq;have a2:∀(l:mz) (y:AObj),(h++l).set i y=h.set i y++l:=λl y=>jw _ _ tq;have a3:∀(o:AObj) (l:mz),(h.set i o++l)[i]?=some o:=λo l=>by rw[gu W];simp[tq]
 have a4:∀(o y:AObj) (l:mz),(h.set i o++l).set i y=h.set i y++l:=λo y l=>by rw[jw _ _ W,mq]
 have a5:∀(o x:AObj) (l:mz),(h.set i o++x::l)[h.length]?=some x:=λo x l=>by rw[gz Z];simp
 have dF:∀(rs:List (List V)),hUnder h.length (h.set i (.uarr 260 20 rs))=true:=λrs=>wh Q fh;have hn:(out.map Vt.c).length=out.length:=Z;have e0:h.set i (.uarr 260 20 (out.map Vt.c))=h:=fM hi;have hil1:i<h.length+1:=Nat.lt_succ_of_lt tq;have hue:∀(rs:List (List V)),hUnder (h.length+1) (h.set i (.uarr 260 20 rs)++[.cells [I e.op,I e.n,my e.s,.slice (e.args.map Ex.c)]])=true:=λrs=>by rw[xh,aQ (Nat.le_succ _) (dF rs)];simp[hUnder,AObj.under,V.under,q9]
 obtain⟨ae,hW⟩:=Qaj (bN e r out)
 rw[hW];rw[Jj]at hW;simp-dsimp[go_sem,B,a1,a2,a3,a4,a5,hi];refine ox (λL=>?_) (λL=>?_)
 .rw[gh J]at hW;rw[<-hW,e0];simp-dsimp[go_sem,B,a1,hi];exact⟨_,.refl _,h,by simp[go_sem,hi,tq],hwk.app0 _,Z,Q,rfl,rfl⟩
 rw[gg J]at hW;simp-dsimp[go_sem,B,a1,a2,a3,a4,a5,hi];obtain⟨o1,si⟩:=Qaj (out++[Vt.ofE e r])
 rw[si]at hW;have aG:o1.length=out.length+1:=W;have kH:out.map Vt.c++[(Vt.ofE e r).c]=o1.map Vt.c:=W;refine⟨J,?_⟩;refine u4 (α:=List Vt) e.args.length (λn o=>iG (e.args.drop n) o=iG e.args o1/\o.length<=401/\out.length<o.length) (λn o=>⟨[(0,.own i o.length),(4,P0 h.length),(7,I n)],h.set i (.uarr 260 20 (o.map Vt.c))++[.cells e.x]⟩) o1 ⟨Z,J,J⟩ ?_ ?_
 .refine Wk.mk bb (by simp[go_sem,<-si]) W (by simp[go_sem,<-si,hil1])
 rintro n o lC ⟨z,ho,hlo⟩;have hw:=oi lC (show _<=68719476736 by first|exact hb.1.2.1|exact hb.2.1|exact hb.1|exact hb|omega);simp-dsimp[go_sem,B,a3,a4,a5];refine ox (λhc=>?_) (λhc=>?_)
 .have tg:n<e.args.length:=J;have ni:SizeOf.sizeOf e.args[n]<SizeOf.sizeOf e:=Ex.arg_lt (ij tg);rw[ov tg,iG,gh J]at z;simp-dsimp[go_sem,B,a3,a4,a5,tg];refine o7 (F7 e.args[n] false o _ i (a3 _ _) ho) ?_;simp-dsimp[go_sem,B,a3,a4,a5,hw];refine⟨tg,bN e.args[n] false o,⟨z,Fc _ _ _ ho,by have:=BZ e.args[n] false o;omega⟩,?_⟩;refine Wk.mk bb Z W (by simp[go_sem,hil1])
 have he:iG (e.args.drop n) o=o:=by grind[ov,iG,gq]
 rw[he,hW]at z;subst z;simp-dsimp[go_sem,B,a3];exact⟨_,.refl _,h.set i (.uarr 260 20 (o.map Vt.c)),dv,hwk.app0 _,Z,by simpa using dF _,rfl,rfl⟩
termination_by SizeOf.sizeOf e
def yQ(l:List St)(d:Nat)(out:List Vt)(h:mz)(i:Nat)(hi:h[i]?=some (.uarr 260 20 (out.map Vt.c)))(hl:out.length<=401)(hd:d<=out.length+1) :
  ACalls prog 237 [.own i out.length,.slice (l.map St.c),I d] h λq Y=>q=.ret (.own i (xm l d out).length)/\Y=h.set i (.uarr 260 20 ((xm l d out).map Vt.c)):=by
 refine cD func237 ntmps237 λE B hh Q hb nl qb=>?_;have tq:i<h.length:=(gn.1 hi).1;have a1:∀l:mz,(h++l)[i]?=h[i]?:=λl=>gu tq;have a2:∀(l:mz) (y:AObj),(h++l).set i y=h.set i y++l:=λl y=>jw _ _ tq;have a3:∀(o:AObj) (l:mz),(h.set i o++l)[i]?=some o:=λo l=>by rw[gu W];simp[tq]
 have a4:∀(o y:AObj) (l:mz),(h.set i o++l).set i y=h.set i y++l:=λo y l=>by rw[jw _ _ W,mq]
 have a6:∀(o:AObj),(h.set i o)[i]?=some o:=λo=>by simp[tq]
 have a7:∀(o y:AObj),(h.set i o).set i y=h.set i y:=λo y=>mq ..;have dF:∀(rs:List (List V)),hUnder h.length (h.set i (.uarr 260 20 rs))=true:=λrs=>wh Q fh;obtain⟨ae,hW⟩:=Qaj (xm l d out)
 rw[hW];have e0:h.set i (.uarr 260 20 (out.map Vt.c))=h:=fM hi;have yw:IntKind.i64.wrap ((d:Int)+1)=((d+1:Nat):Int):=cq;simp-dsimp[go_sem,B,a1,a2,a3,a4,hi];refine u4 (α:=List Vt) l.length (λn o=>xm (l.drop n) d o=ae/\o.length<=401/\out.length<=o.length) (λn o=>⟨[(0,.own i o.length),(1,.slice (l.map St.c)),(2,I d),(7,I n)],h.set i (.uarr 260 20 (o.map Vt.c))⟩) out ⟨by simpa using hW,hl,gj _⟩ ?_ ?_
 .rw[e0];exact Wk.mk bb Z J dv
 rintro n o lC ⟨z,ho,hlo⟩;have hw:=oi lC (show _<=68719476736 by first|exact hb.1.1|exact hb.1|exact hb.2.1|omega);simp-dsimp[go_sem,B,a6,a7];refine ox (λhc=>?_) (λhc=>?_)
 .have tg:n<l.length:=J;have ni:SizeOf.sizeOf l[n]<SizeOf.sizeOf l:=km (ij tg);have hlb:SizeOf.sizeOf l[n].body<SizeOf.sizeOf l:=by cases hx:l[n];rw[hx]at ni;simp at ni;simp[St.body];omega
  have nh:SizeOf.sizeOf l[n].els<SizeOf.sizeOf l:=by cases hx:l[n];rw[hx]at ni;simp at ni;simp[St.els];omega
  rw[ov tg,xm,gh J]at z;rw[qo3]at z;refine Qae ?_;obtain⟨o1,si⟩:=Qaj (o++[Vt.ofS l[n] d])
  have aG:o1.length=o.length+1:=W;have kH:o.map Vt.c++[(Vt.ofS l[n] d).c]=o1.map Vt.c:=W;simp only[Vt.ofS,Vt.c,PE,Nz,MV,PW,kf,em]at kH;rw[si]at z;refine⟨J,?_⟩;rw[kH];rw[<-aG];refine nc (Eg l[n].a) (Qae ?_);rcases ga:kP l[n].a with _|_
  .refine Qae ?_;refine o7 (F7 l[n].a true o1 _ i (a6 _) J) (Qae ?_);have fo2:cR l[n].a o1=bN l[n].a true o1:=fo;have ko2:=Fc l[n].a true o1 J;have mo2:=BZ l[n].a true o1;obtain⟨o2,pQ⟩:∃x,bN l[n].a true o1=x:=⟨_,rfl⟩
   rw[pQ]at fo2 ko2 mo2|-;rw[fo2]at z;refine nc (Eg l[n].b) (Qae ?_);rcases gb:kP l[n].b with _|_
   .refine Qae ?_;refine o7 (F7 l[n].b true o2 _ i (a6 _) J) (Qae ?_);have fo3:cR l[n].b o2=bN l[n].b true o2:=fo;have ko3:=Fc l[n].b true o2 J;have mo3:=BZ l[n].b true o2;obtain⟨o3,qH⟩:∃x,bN l[n].b true o2=x:=⟨_,rfl⟩
    rw[qH]at fo3 ko3 mo3|-;rw[fo3]at z;refine o7 (yQ l[n].body (d+1) o3 _ i (a6 _) J J) (Qae ?_);have k4:=Aa l[n].body (d+1) o3 J;have m4:=tN l[n].body (d+1) o3;obtain⟨o4,h4⟩:∃x,xm l[n].body (d+1) o3=x:=⟨_,rfl⟩
    exact Qhv
   refine Qae ?_;have fo3:cR l[n].b o2=o2:=fo;obtain⟨o3,qH⟩:∃x,x=o2:=⟨_,rfl⟩
   rw[fo3,<-qH]at z;rw[<-qH];have ko3:o3.length<=401:=W;have mo3:o2.length<=o3.length:=W;refine o7 (yQ l[n].body (d+1) o3 _ i (a6 _) J J) (Qae ?_);have k4:=Aa l[n].body (d+1) o3 J;have m4:=tN l[n].body (d+1) o3;obtain⟨o4,h4⟩:∃x,xm l[n].body (d+1) o3=x:=⟨_,rfl⟩
   exact Qhv
  refine Qae ?_;have fo2:cR l[n].a o1=o1:=fo;obtain⟨o2,pQ⟩:∃x,x=o1:=⟨_,rfl⟩
  rw[fo2,<-pQ]at z;rw[<-pQ];have ko2:o2.length<=401:=W;have mo2:o1.length<=o2.length:=W;refine nc (Eg l[n].b) (Qae ?_);rcases gb:kP l[n].b with _|_
  .refine Qae ?_;refine o7 (F7 l[n].b true o2 _ i (a6 _) J) (Qae ?_);have fo3:cR l[n].b o2=bN l[n].b true o2:=fo;have ko3:=Fc l[n].b true o2 J;have mo3:=BZ l[n].b true o2;obtain⟨o3,qH⟩:∃x,bN l[n].b true o2=x:=⟨_,rfl⟩
   rw[qH]at fo3 ko3 mo3|-;rw[fo3]at z;refine o7 (yQ l[n].body (d+1) o3 _ i (a6 _) J J) (Qae ?_);have k4:=Aa l[n].body (d+1) o3 J;have m4:=tN l[n].body (d+1) o3;obtain⟨o4,h4⟩:∃x,xm l[n].body (d+1) o3=x:=⟨_,rfl⟩
   exact Qhv
  refine Qae ?_;have fo3:cR l[n].b o2=o2:=fo;obtain⟨o3,qH⟩:∃x,x=o2:=⟨_,rfl⟩
  rw[fo3,<-qH]at z;rw[<-qH];have ko3:o3.length<=401:=W;have mo3:o2.length<=o3.length:=W;refine o7 (yQ l[n].body (d+1) o3 _ i (a6 _) J J) (Qae ?_);have k4:=Aa l[n].body (d+1) o3 J;have m4:=tN l[n].body (d+1) o3;obtain⟨o4,h4⟩:∃x,xm l[n].body (d+1) o3=x:=⟨_,rfl⟩
  exact Qhv
 have he:xm (l.drop n) d o=o:=by grind[ov,xm,gq]
 rw[he]at z;subst z;simp-dsimp[go_sem,B,a6];exact⟨_,.refl _,h.set i (.uarr 260 20 (o.map Vt.c)),dv,hwk.refl _,Z,by simpa using dF _,rfl,rfl⟩
termination_by SizeOf.sizeOf l
def Kf(p:Proc):APure prog 211 [.agg p.c] (.slice ((jQ p).map Vt.c)):=by
 refine xZ func211 rfl ah (by simp[ntmps211]) rfl ?_;intro E h B hh Q hb;rw[ntmps211]at B;refine yv (pY ?_);simp[go_sem,B];refine yv (qU [_,_] _ ?_);simp[go_sem,B];intro c a w s k;have hwb:=yQ p.body 1 [] (h++[.cells p.c]++[.uarr 260 20 []]) (h.length+1) Z Z Z;have lK:=qpb (t:=260) (sz:=20) (S:=(jQ p).map Vt.c) (n:=(jQ p).length) (h:=h++[.cells p.c]) (P:=prog) (f:=237) (rest:=[.slice (p.body.map St.c),I 1]) Z cy (by simp[z8 Q,Q,go_sem]);refine Jo s k rfl rfl J rfl af (x:=.slice ((jQ p).map Vt.c)) (U:=h++[.cells p.c]) ?_ ?_
 .simpa[go_sem]using lK
 intro c' a' w' s' k';refine lF _ [_,_,_] _ rfl ?_ c' a' w' s' k';simp[go_sem,B];apply yd;exact Qek
end
section
attribute [local go_sem] Vt.c
def Sh(p:Proc):APure prog 183 [.agg p.c] (I (zo p)):=by
 refine od func183 ntmps183 λE h B hh Q hb=>?_;rw[TC];refine M ?_;refine nc (GQ p.name) ?_;refine nf (λL=>?_) (λL=>?_)
 .simp-dsimp[go_sem,B,L]
 rw[gg bz];refine M ?_;refine nc (qkm p.params) ?_;refine nf (λO=>?_) (λO=>?_)
 .simp-dsimp[go_sem,B,O]
 rw[gg dq];refine M ?_;refine nc (Kf p) (M ?_);have oy:=(zD (eR (σ:=Unit)) tz p ()).1;obtain⟨h0,hL⟩:=Qaj (jQ p)
 rw[hL]at oy|-;refine po h0.length (λn=>xF (h0.drop n)=xF h0) (λn=>⟨[(4,.slice (h0.map Vt.c)),(5,I n)],h⟩) Z ng ?_;intro n hn z;have hw:=oi hn (show _<=68719476736 by omega);refine nf (λhc=>?_) (λhc=>?_)
 .rw[ov hc,xF]at z;refine Qab ?_;refine og ?_ ?_<;>intro U<;>try simp at U
  .refine Qab ?_;refine pf 10 (Qab ?_);refine nc (X4 h0[n].t h0[n].d) (M ?_);refine og ?_ ?_<;>intro h3<;>try simp at h3
   .rw[gh ⟨U,h3⟩]at z;rw[<-z,gh h3];exact Qek
   rw[gg (λg=>g.2 h3)]at z;exact Qfx
  rw[gg fy]at z;exact Qfx
 rw[gq J,xF]at z;rw[<-z,gg Z];refine M ?_;refine og ?_ ?_<;>intro U<;>try simp at U
 .rw[gh J];exact Qek
 rw[gg J];exact Qek
def Yw(p:Proc):APure prog 243 [.agg p.c] (.slice ((pA (jQ p)).map Ex.c)):=by
 refine od func243 ntmps243 λE h B hh Q hb=>?_;refine M ?_;refine nc (Kf p) (M ?_);have oy:=(zD (eR (σ:=Unit)) tz p ()).1;obtain⟨h0,hL⟩:=Qaj (jQ p)
 rw[hL]at oy|-;refine u4 (α:=List Ex) h0.length (λn o=>o++pA (h0.drop n)=pA h0/\o.length<=n) (λn o=>⟨[(3,.slice (h0.map Vt.c)),(4,.own (h.length+1) o.length),(5,I n)],h++[.cells p.c,.arr 64 4 (o.map Ex.c)]⟩) [] Z ((mF E _ 4 64 4 af).trans ?_) ?_
 .simp;exact ng
 rintro n o hn ⟨z,ho⟩;have hw:=oi hn (show _<=68719476736 by omega);refine nf (λhc=>?_) (λhc=>?_)
 .rw[ov hc,pA]at z;refine Qab ?_;refine og ?_ ?_<;>intro U<;>try simp at U
  .rw[gh U]at z;simp-dsimp[go_sem,B,hc,hw];refine⟨J,o++[h0[n].e],⟨qhp,au⟩,ng⟩
  rw[gg fy]at z;refine Qaa ?_;exact⟨hc,o,⟨z,J⟩,ng⟩
 rw[gq J,pA]at z;simp at z;simp-dsimp[go_sem,B,z]
def YA(p:Proc)(hP:p.params.length<=34359738368):APure prog 185 [.agg p.c] (.slice ((p.params.map (·.name)++nO (jQ p)).map ny)):=by
 refine ry func185 ntmps185 λE h B hh Q hb=>?_;refine M ?_;refine u4 (α:=List na) p.params.length (λn o=>o++(p.params.drop n).map (·.name)=p.params.map (·.name)/\o.length=n) (λn o=>⟨[(1,P0 h.length),(3,.own (h.length+1) o.length),(4,I n)],h++[.cells p.c,.arr 9 1 (o.map ny)]⟩) [] Z ((mF E _ 3 9 1 af).trans ?_) ?_
 .simp;exact ng
 rintro n o hn ⟨z,ho⟩;have hw:=oi hn (show _<=68719476736 by omega);refine nf (λhc=>?_) (λhc=>?_)
 .rw[ov hc]at z;simp-dsimp[go_sem,B,hc,hw];refine⟨J,o++[p.params[n].name],⟨by rw[jf,<-lz];exact z,by simp[ho]⟩,ng⟩
 rw[gq J]at z;simp at z;refine M ?_;refine nc (Kf p) (M ?_);have oy:=(zD (eR (σ:=Unit)) tz p ()).1;obtain⟨h0,hL⟩:=Qaj (jQ p)
 rw[hL]at oy|-;have nK:o.length<=34359738368:=J;obtain⟨N,hN2⟩:=Qaj (p.params.map (·.name)++nO h0)
 refine u4 (α:=List na) h0.length (λk q=>q++nO (h0.drop k)=N/\q.length<=o.length+k) (λk q=>⟨[(3,.own (h.length+1) q.length),(5,.slice (h0.map Vt.c)),(6,I k)],h++[.cells p.c,.arr 9 1 (q.map ny)]⟩) o ⟨by rw[z,<-hN2];simp,J⟩ ng ?_;rintro k q hk ⟨hJ,hq⟩;have hw:=oi hk (show _<=68719476736 by omega);refine nf (λhd=>?_) (λhd=>?_)
 .rw[ov hd,nO]at hJ;simp-dsimp[go_sem,B,hd];refine⟨W,?_⟩;refine og ?_ ?_<;>intro U<;>try simp at U
  .rw[gh U]at hJ;simp-dsimp[go_sem,B,hd,hw];refine⟨J,q++[h0[k].t.name],⟨by simpa using hJ,au⟩,ng⟩
  rw[gg W]at hJ;refine Qaa ?_;exact⟨hd,q,⟨hJ,J⟩,ng⟩
 rw[gq J,nO]at hJ;simp at hJ;simp-dsimp[go_sem,B,hJ];grind
end
def nW(q:na×Int):List V:=[my q.1,I q.2]
section
attribute [local go_sem] nW
def NG(vars:ui)(k:na):APure prog 242 [.slice (vars.map nW),my k] (.tuple [I (dH (pb vars k)).1,I (dH (pb vars k)).2]):=by
 refine ry func242 ntmps242 λE h B hh Q hb=>?_;refine M ?_;refine po vars.length (λn=>pb (vars.drop n) k=pb vars k) (λn=>⟨[(0,.slice (vars.map nW)),(1,my k),(6,I n)],h⟩) Z ng ?_;intro n hn z;have hw:=oi hn hb.1.1;refine nf (λhc=>?_) (λhc=>?_)
 .rw[ov hc,pb]at z;refine Qab ?_;refine ox (λhg=>?_) (λhg=>?_)
  .rw[gh hg]at z;refine Qab ?_
   repeat refine⟨W,?_⟩
   refine og (λO=>?_) (λO=>?_)
   .refine M ?_;grind[dH]
   refine Qab ?_;grind[dH]
  exact Qef
 rw[gq J,pb]at z;refine M ?_;rw[<-z];exact⟨rfl,rfl⟩
def DX(vars:ui)(op:Int)(s:na):Int×Int:=if op=3 then dH (pb vars s)else if op=2 then(2,0)else(1,0)
def qsv(vars:ui)(e:Ex):APure prog 309 [.agg e.x,.slice (vars.map nW)] (.tuple [I (DX vars e.op e.s).1,I (DX vars e.op e.s).2]):=by
 refine od func309 ntmps309 λE h B hh Q hb=>?_;refine nf (λL=>?_) (λL=>?_)
 .refine M ?_;refine nc (NG vars e.s) ?_;simp-dsimp[go_sem,B,DX,L]
 refine nf (λO=>?_) (λO=>?_)<;>simp-dsimp[go_sem,B,DX,L,O]
def xB(op:Int):Int×Int:=if op=9 then(1,1)else if op=18 then(3,3)else if op=20 then(1,2)else if op=21\/op=22 then(2,1)else if op=23 then(2,2)else(2,3)
theorem qrj{op:Int}(h:uv op=1):xB op=ux op:=by have p8:op=9\/op=18\/op=20\/op=21\/op=22\/op=23\/op=24:=fg;rcases p8 with rfl|rfl|rfl|rfl|rfl|rfl|rfl<;>rfl
def qp6(op:Int):APure prog 310 [I op] (.tuple [I (xB op).1,I (xB op).2]):=by
 refine od func310 ntmps310 λE h B hh Q hb=>?_;by_cases h9:op=9
 .subst h9;exact Qhw
 by_cases eJ:op=18
 .subst eJ;exact Qhw
 by_cases jJ:op=20
 .subst jJ;exact Qhw
 by_cases h21:op=21
 .subst h21;exact Qhw
 by_cases h22:op=22
 .subst h22;exact Qhw
 by_cases h23:op=23
 .subst h23;exact Qhw
 simp-dsimp[go_sem,B,xB,h9,eJ,jJ,h21,h22,h23]
def Za(op a b:Int):APure prog 311 [I op,I a,I b] (I (zH op a b)):=by
 refine od func311 ntmps311 λE h B hh Q hb=>?_;refine M ?_;refine og (λL=>?_) (λL=>?_)
 .exact Qhx
 have jR:¬a≠b:=W;refine M ?_
 repeat refine⟨W,?_⟩
 refine og (λO=>?_) (λO=>?_)
 .exact Qhx
 have s7:¬(4<=op/\op<=8/\a=1):=W;refine M ?_
 repeat refine⟨W,?_⟩
 refine og (λU=>?_) (λU=>?_)
 .exact Qhx
 have cY:¬(op=10\/op=11\/(12<=op/\op<=15/\a≠3)\/((op=16\/op=17)/\a=3)):=W;refine M ?_
 repeat refine⟨W,?_⟩
 refine og (λh3=>?_) (λh3=>?_)
 .exact Qhx
 exact Qhx
def IG(vars:ui)(e:Ex)(d:Nat)(hv:te e d=0):APure prog 278 [.agg e.x,.slice (vars.map nW)] (.tuple [I (ofE vars e).1,I (ofE vars e).2]):=by
 have bJ:=Ad hv;refine od func278 ntmps278 λE h B hh Q hb=>?_;refine M ?_;refine nc (Lk e.op) ?_;refine nf (λL=>?_) (λL=>?_)
 .have ha:e.args=[]:=ko J;have ho:ofE vars e=DX vars e.op e.s:=V5 vars L ha;rw[ho];refine M ?_;refine nc (qsv vars e) ?_;exact Qek
 have hpos:0<e.args.length:=J;have hlt0:SizeOf.sizeOf e.args[0]<SizeOf.sizeOf e:=Ex.arg_lt (ij hpos);have kL:=IZ hv _ (ij hpos);simp-dsimp[go_sem,B,hpos];refine nc (IG vars e.args[0] (d+1) kL) ?_;refine nf (λO=>?_) (λO=>?_)
 .have ho:ofE vars e=((0:Int),(ofE vars e.args[0]).2):=by
   have rG:uv e.op=1\/uv e.op=2:=by have:=KT e.op;omega
   rcases rG with rG|rG
   .obtain⟨a,ha⟩:∃a,e.args=[a]:=by
     match hm:e.args,(show e.args.length=1 by omega)with
     | [a],_=>exact⟨a,rfl⟩
    grind[NB]
   obtain⟨a,b,ha⟩:∃a b,e.args=[a,b]:=by
    match hm:e.args,(show e.args.length=2 by omega)with
    | [a,b],_=>exact⟨a,b,rfl⟩
   rw[N9 vars rG ha];grind
  rw[ho];exact Qek
 refine nf (λU=>?_) (λU=>?_)
 .obtain⟨a,ha⟩:∃a,e.args=[a]:=by
   match hm:e.args,(show e.args.length=1 by omega)with
   | [a],_=>exact⟨a,rfl⟩
  have ho:=NB vars U ha;simp only[ha,List.getElem_cons_zero]at O;rw[gg J]at ho;refine M ?_;refine nc (qp6 e.op) ?_;simp-dsimp[go_sem,B,qrj U,ha];refine og (λh3=>?_) (λh3=>?_)
  .exact Qee
  exact Qee
 have rG:uv e.op=2:=by have:=KT e.op;omega
 have aG:1<e.args.length:=J;have hlt1:SizeOf.sizeOf e.args[1]<SizeOf.sizeOf e:=Ex.arg_lt (ij aG);have hv1:=IZ hv _ (ij aG);simp-dsimp[go_sem,B,aG];refine nc (IG vars e.args[1] (d+1) hv1) (M ?_);obtain⟨a,b,ha⟩:∃a b,e.args=[a,b]:=by
  match hm:e.args,(show e.args.length=2 by omega)with
  | [a,b],_=>exact⟨a,b,rfl⟩
 have ho:=N9 vars rG ha;have ea:e.args[0]=a:=by simp[ha]
 have eb:e.args[1]=b:=by simp[ha]
 rw[ea]at O;rw[gg J]at ho;refine og (λh3=>?_) (λh3=>?_)
 .rw[eb]at h3;rw[gh W]at ho;simp-dsimp[go_sem,B,eb,ho]
 rw[eb]at h3;rw[gg W]at ho;simp-dsimp[go_sem,B,ea,eb];refine nc (Za e.op _ _) (M ?_);refine og (λh4=>?_) (λh4=>?_)
 .exact Qee
 exact Qee
termination_by SizeOf.sizeOf e
def Oo(vars:ui)(e:Ex)(hv:te e 1=0):APure prog 241 [.agg e.x,.slice (vars.map nW)] (.tuple [I (ofE vars e).1,I (ofE vars e).2]):=by refine od func241 ntmps241 λE h B hh Q hb=>?_;refine M ?_;refine nc (FV e) ?_;simp-dsimp[go_sem,B,hv];refine nc (IG vars e 1 hv) ?_;exact Qek
def Sr(op a b:Int):APure prog 215 [I op,I a,I b] (Bo (yy op a b)):=by
 refine od func215 ntmps215 λE h B hh Q hb=>?_;by_cases h3:op=3
 .subst h3;exact Qhy
 by_cases h4:op=4
 .subst h4;exact Qhy
 by_cases h5:op=5
 .subst h5;exact Qhy
 by_cases h6:op=6
 .subst h6;exact Qhy
 by_cases h7:op=7
 .subst h7;exact Qhy
 simp-dsimp[go_sem,B,yy,h3,h4,h5,h6,h7]
def IJ(vars:ui)(loops:List na)(name:na)(t:Int)(lp:Bool)(hB:vars.length+1<=68719476736)(hB2:loops.length+1<=68719476736):APure prog 184 [.agg [.slice (vars.map nW),.slice (loops.map ny)],my name,I t,Bo lp] (.agg [.slice ((vars++[(name,t)]).map nW),.slice ((if lp then loops++[name]else loops).map ny)]):=by
 refine ry func184 ntmps184 λE h B hh Q hb=>?_;refine M ?_;refine⟨J,J,J,?_⟩;rcases lp with _|_
 .exact Qek
 exact Qfb
end
section
attribute [local go_sem] nW
def qrw(vars:ui)(loops:List na)(t:St)(d:Nat)(pg:aC t d):APure prog 213 [.agg [.slice (vars.map nW),.slice (loops.map ny)],.agg t.x] (.tuple [I (sf vars t).1,I (sf vars t).2.1,I (sf vars t).2.2]):=by
 refine od func213 ntmps213 λE h B hh Q hb=>?_;refine nf (λh8=>?_) (λh8=>?_)
 .simp-dsimp[go_sem,B,sf,h8]
 refine M ?_;refine nc (Oo vars t.a (BB pg h8)) (M ?_)
 repeat refine⟨W,?_⟩
 refine og (λO=>?_) (λO=>?_)
 .have e:sf vars t=((ofE vars t.a).1,0,(ofE vars t.a).2):=by
   grind[sf]
  exact Qhk
 have s7:(ofE vars t.a).2=0/\(t.op=3\/t.op=6):=W;have e:sf vars t=((ofE vars t.a).1,(ofE vars t.b).1,(ofE vars t.b).2):=fw;refine M ?_;refine nc (Oo vars t.b (Bl pg s7.2)) ?_;exact Qhk
def qp3(vars:ui)(loops:List na)(name:na)(ty:Int):APure prog 214 [.agg [.slice (vars.map nW),.slice (loops.map ny)],my name,I ty] (I (vN vars loops name ty)):=by
 refine ry func214 ntmps214 λE h B hh Q hb=>?_;refine M ?_;refine nc (NG vars name) ?_;refine nf (λL=>?_) (λL=>?_)
 .simp-dsimp[go_sem,B,vN,L]
 refine M ?_;refine po loops.length (λn=>qa (loops.drop n) name=qa loops name) (λn=>⟨[(1,my name),(2,I ty),(3,.ptr h.length 0),(7,I (dH (pb vars name)).1),(9,I n)],h++[.cells [.slice (vars.map nW),.slice (loops.map ny)]]⟩) Z ng ?_;intro n hn z;have hw:=oi hn hb.1.2.1;refine nf (λhc=>?_) (λhc=>?_)
 .rw[ov hc,qa,ut]at z;refine Qab ?_;refine ox (λhg=>?_) (λhg=>?_)
  .have hk:qa loops name=true:=by rw[<-z];simp[hg]
   simp-dsimp[go_sem,B,vN,L,hk]
  refine Qaa ?_;exact⟨hc,qhj,ng⟩
 rw[gq J]at z;have hk:qa loops name=false:=by rw[<-z];rfl
 refine nf (λhg=>?_) (λhg=>?_)
 .simp-dsimp[go_sem,B,vN,L,hk,hg]
 simp-dsimp[go_sem,B,vN,L,hk,hg]
abbrev Cr(vars:ui)(loops:List na):List V:=[.slice (vars.map nW),.slice (loops.map ny)]
def FX(l:List St)(d:Nat)(vars:ui)(loops:List na)(pg:eZ l d)(hB:vars.length+(vg l).length+1<=68719476736)(hL:loops.length<=vars.length):APure prog 186 [.agg (Cr vars loops),.slice (l.map St.c)] (I (yi l vars loops)):=by
 refine ry func186 ntmps186 λE h B hh Q hb=>?_;refine M ?_;refine u4 (α:=ui) l.length (λn vs=>yi (l.drop n) vs loops=yi l vars loops/\vs.length+(vg (l.drop n)).length+1<=68719476736/\loops.length<=vs.length) (λn vs=>⟨[(1,.slice (l.map St.c)),(2,.ptr h.length 0),(5,I n)],h++[.cells (Cr vs loops)]⟩) vars ⟨Z,by simpa using hB,hL⟩ ng ?_;clear hB hL;intro n vs hn ⟨z,hB,hL⟩;have hw:=oi hn hb.2.1;refine nf (λhc=>?_) (λhc=>?_)
 rotate_left
 .rw[gq J,yi]at z;exact Qem
 obtain⟨t,ht⟩:=Qaj (l[n])
 have hkt:=pg l[n] (ij hc);have hkt':=(dZ _ _).1 hkt;have p8:=D6 hkt;have hlt1:SizeOf.sizeOf l[n].body<SizeOf.sizeOf l:=Nat.lt_trans (St.body_le _) (km (ij hc));have vT:SizeOf.sizeOf l[n].els<SizeOf.sizeOf l:=Nat.lt_trans (St.els_le _) (km (ij hc));rw[ov hc,yi]at z;rw[ov hc,vg,zY]at hB;simp only[it]at hB;refine Qab ?_;refine nc (qrw vs loops l[n] d hkt) ?_;obtain⟨oa,ob,oe,ho⟩:∃oa ob oe,sf vs l[n]=(oa,ob,oe):=⟨_,_,_,rfl⟩
 have G:=Az l[n] vs loops;rw[ho]at G;simp only at G;rw[ho]at z;simp-dsimp[go_sem,B,ho];by_cases hz:oe=0
 .subst hz;have iZ:=Sr l[n].op oa ob;rcases p8 with si|si|si|si|si|si|si|si
  .have e0:jN l[n] vs loops=0:=by rw[G];simp[si,yy]
   rw[e0,gg Z,gh si]at z;rw[gh (.inl si)]at hB;simp only[lj]at hB;simp-dsimp[go_sem,B,si];rw[si]at iZ;refine pz iZ Z ?_;simp-dsimp[go_sem,B,yy];refine nc (IJ vs loops l[n].name oa false J J) (Qaa ?_);refine⟨hc,vs++[(l[n].name,oa)],⟨z,au,au⟩,ng⟩
  .have e0:jN l[n] vs loops=vN vs loops l[n].name oa:=by rw[G];simp[si,yy]
   rw[e0]at z;simp-dsimp[go_sem,B,si];refine nc (qp3 vs loops l[n].name oa) ?_;obtain⟨a1,ha1⟩:=Qaj (vN vs loops l[n].name oa)
   rw[ha1]at z|-;by_cases zd:a1=0
   .subst zd;rw[gg Z,gg J]at z;refine M ?_;rw[si]at iZ;refine pz iZ Z ?_;simp-dsimp[go_sem,B,yy,hw];exact⟨hc,vs,⟨z,J,hL⟩,ng⟩
   rw[gh zd]at z;simp-dsimp[go_sem,B,zd];rw[si]at iZ;refine pz iZ Z ?_;simp-dsimp[go_sem,B,yy,zd];exact z
  .have e0:jN l[n] vs loops=if yy l[n].op oa ob=true then 10 else 0:=qg3;rw[e0]at z;simp-dsimp[go_sem,B,si];rw[si]at iZ z;refine pz iZ Z ?_;rcases fW:yy 3 oa ob with _|_
   .exact Qhz
   exact Qia
  .have e0:jN l[n] vs loops=if yy l[n].op oa ob=true then 10 else 0:=qg3;rw[e0]at z;simp-dsimp[go_sem,B,si];rw[si]at iZ z;refine pz iZ Z ?_;rcases fW:yy 4 oa ob with _|_
   .exact Qhz
   exact Qia
  .have e0:jN l[n] vs loops=if yy l[n].op oa ob=true then 10 else(if yi l[n].body vs loops=0 then yi l[n].els vs loops else yi l[n].body vs loops):=by
    grind
   rw[e0]at z;simp-dsimp[go_sem,B,si];rw[si]at iZ z;refine pz iZ Z ?_;rcases fW:yy 5 oa ob with _|_
   .rw[fW]at z;rw[gg (show ¬(false=true)by simp)]at z;refine M ?_;refine nc (FX l[n].body (d+1) vs loops hkt'.2.1 J hL) ?_;obtain⟨b1,qd⟩:=Qaj (yi l[n].body vs loops)
    rw[qd]at z|-;by_cases zd:b1=0
    .subst zd;rw[gh rfl]at z;refine M ?_;refine nc (FX l[n].els (d+1) vs loops hkt'.2.2 J hL) ?_;obtain⟨b2,rh⟩:=Qaj (yi l[n].els vs loops)
     rw[rh]at z|-;by_cases hz2:b2=0
     .subst hz2;exact Qib
     rw[gh hz2]at z;simp-dsimp[go_sem,B,hz2];exact z
    rw[gg zd,gh zd]at z;simp-dsimp[go_sem,B,zd];exact z
   rw[fW]at z;rw[gh (show true=true from rfl),gh Z]at z;exact Qfb
  .have e0:jN l[n] vs loops=if yy l[n].op oa ob=true then 10 else yi l[n].body (vs++[(l[n].name,1)]) (loops++[l[n].name]):=by
    grind
   rw[e0]at z;rw[gh (.inr si)]at hB;simp only[lj]at hB;simp-dsimp[go_sem,B,si];rw[si]at iZ z;refine pz iZ Z ?_;rcases fW:yy 6 oa ob with _|_
   .rw[fW]at z;rw[gg (show ¬(false=true)by simp)]at z;refine M ?_;refine pf 6 (M ?_);refine p7 (IJ vs loops l[n].name 1 true J J) (λ_=>trivial) (M ?_);have rB:=FX l[n].body (d+1) (vs++[(l[n].name,1)]) (loops++[l[n].name]) hkt'.2.1 W W;unfold Cr at rB;rw[jr,jr]at rB;simp only[jd,kf,nW,ny]at rB;refine nc rB ?_;obtain⟨b1,qd⟩:=Qaj (yi l[n].body (vs++[(l[n].name,1)]) (loops++[l[n].name]))
    rw[qd]at z|-;by_cases zd:b1=0
    .subst zd;exact Qib
    rw[gh zd]at z;simp-dsimp[go_sem,B,zd];exact z
   rw[fW]at z;rw[gh (show true=true from rfl),gh Z]at z;exact Qfb
  .have e0:jN l[n] vs loops=if yy l[n].op oa ob=true then 10 else 0:=qg3;rw[e0]at z;simp-dsimp[go_sem,B,si];rw[si]at iZ z;refine pz iZ Z ?_;rcases fW:yy 7 oa ob with _|_
   .exact Qhz
   exact Qia
  have e0:jN l[n] vs loops=if yy l[n].op oa ob=true then 10 else 0:=qg3;rw[e0]at z;simp-dsimp[go_sem,B,si];rw[si]at iZ z;refine pz iZ Z ?_;rcases fW:yy 8 oa ob with _|_
  .exact Qhz
  exact Qia
 have e0:jN l[n] vs loops=oe:=by rw[G];simp[hz]
 rw[e0,gh hz]at z;simp-dsimp[go_sem,B,hz];refine pz (Sr l[n].op oa ob) Z ?_;simp-dsimp[go_sem,B,hz];exact z
termination_by SizeOf.sizeOf l
def N6{p:Proc}(h:zo p=0):p.params.length<=6:=by grind[zo,tM]
def qr8{p:Proc}(h:zo p=0):(vg p.body).length<=401:=by
 have O:=E7 h;rw[OU]at O;have U:=List.append_cancel_left O;have h3:=(zD (eR (σ:=Unit)) tz p ()).1;have h4:∀l:List Vt,(nO l).length<=l.length:=by
  intro l
  induction l with
  |nil=>simp[nO]
  |cons v l ih=>rw[nO];split<;>simp<;>omega
 grind
def Mp(p:Proc):APure prog 149 [.agg p.c] (I (jK p)):=by
 refine od func149 ntmps149 λE h B hh Q hb=>?_;rw[<-PI];refine M ?_;refine nc (Sh p) ?_;refine nf (λL=>?_) (λL=>?_)
 .simp-dsimp[go_sem,B,Ch,L]
 have hfew:=N6 L;have aM:=qr8 L;obtain⟨R,hR⟩:=Qaj (Ch p)
 have dV:=hR;unfold Ch at dV;rw[gg bz]at dV;rw[hR];obtain⟨vv,hvv⟩:∃vv:Nat->ui,∀n,vv n=tP (p.params.take n):=⟨_,λ_=>rfl⟩
 have kL:vv 0=[]:=W;have hvl:vv p.params.length=tP p.params:=W;have hvn:∀n,n<=p.params.length->(vv n).length=n:=λn hn=>by rw[hvv];simp[tP];omega
 rw[<-hvl]at dV;refine M ?_;refine po p.params.length (λn=>(p.params.drop n).any (λx=>decide (x.ty=3))=p.params.any (λx=>decide (x.ty=3))) (λn=>⟨[(1,P0 h.length),(4,P0 (h.length+1)),(5,I n)],h++[.cells p.c,.cells (Cr (vv n) [])]⟩) Z ?_ ?_
 .exact Wk.mk bb (by simp[go_sem,kL]) cu (by simp[go_sem,kL])
 intro n hn z;have hw:=oi hn (show _<=68719476736 by omega);refine nf (λhc=>?_) (λhc=>?_)
 .rw[ov hc,qit]at z;refine Qab ?_;refine ox (λh3=>?_) (λh3=>?_)
  .rw[gh W]at dV;simp-dsimp[go_sem,B,<-dV]
  refine M ?_;refine pf 13 (Qab ?_);refine nc (IJ (vv n) [] p.params[n].name p.params[n].ty false W Z) ?_;have e1:vv n++[(p.params[n].name,p.params[n].ty)]=vv (n+1):=by simp_all[jn,jr,tP]
  rw[e1];refine Qaa ?_;exact⟨by simpa[h3]using z,ng⟩
 rw[gq J]at z;rw[gg W]at dV;obtain rfl:n=p.params.length:=J;refine M ?_;refine nc (YA p J) ?_;rw[<-OU];obtain⟨N,hN2⟩:=Qaj (gC p)
 rw[hN2]at dV|-;have hNl:N.length<=407:=by grind[E7]
 refine M ?_;refine po N.length (λk=>pO (N.take k) (N.drop k)=pO [] N) (λk=>⟨[(1,P0 h.length),(4,P0 (h.length+1)),(6,.slice (N.map ny)),(7,I k)],h++[.cells p.c,.cells (Cr (vv p.params.length) [])]⟩) Z ng ?_;intro k hk hJ;have hw:=oi hk (show _<=68719476736 by omega);refine nf (λhd=>?_) (λhd=>?_)
 .rw[ov hd,pO]at hJ;refine M ?_;refine po k (λq=>ut (λx=>decide (x=N[k])) ((N.take k).drop q)=ut (λx=>decide (x=N[k])) (N.take k)) (λq=>⟨[(1,P0 h.length),(4,P0 (h.length+1)),(6,.slice (N.map ny)),(7,I k),(8,I q)],h++[.cells p.c,.cells (Cr (vv p.params.length) [])]⟩) Z ng ?_;intro q hq hK;have uc:=oi hq (show _<=68719476736 by omega);refine nf (λhe=>?_) (λhe=>?_)
  .have he2:q<N.length:=J;have hx:q<(N.take k).length:=au;rw[ov hx,ut]at hK;simp only[List.getElem_take]at hK;simp-dsimp[go_sem,B,he,he2,hd];refine pf 8 ?_;simp-dsimp[go_sem,B,he,he2,hd];refine ox (λhg=>?_) (λhg=>?_)
   .have O:qa (N.take k) N[k]=true:=by unfold qa;rw[<-hK];simp[hg]
    have U:pO [] N=true:=W;rw[gh U]at dV;simp-dsimp[go_sem,B,<-dV]
   simp-dsimp[go_sem,B,uc];exact⟨he,by simpa[hg]using hK,ng⟩
  rw[gq au,ut]at hK;have O:qa (N.take k) N[k]=false:=by grind[qa]
  rw[O,qir]at hJ;refine Qaa ?_;exact⟨hd,by rw[jn hd];exact hJ,ng⟩
 rw[gq J,pO]at hJ;rw[<-hJ,gg Z]at dV;refine M ?_;refine nc (FX p.body 1 (vv p.params.length) [] (CC L) W Z) ?_;simp-dsimp[go_sem,B,dV]
def YI(x:Param)(v:AV)(hx:x.ty=1\/x.ty=2):APure prog 150 [.agg v.c,I x.ty] (Bo (Ah x v)):=by
 refine od func150 ntmps150 λE h B hh Q hb=>?_;refine nf (λL=>?_) (λL=>?_)
 .simp-dsimp[go_sem,B,Ah,L]
 refine M ?_;refine pz (Qv v.s) Z ?_;have U:x.ty=2:=hx.resolve_left L;simp-dsimp[go_sem,B,Ah,U]
 try grind
def Vu{p:Proc}(h:jK p=0):∀x∈p.params,x.ty=1\/x.ty=2:=by
 rw[<-PI]at h;unfold Ch at h;split at h
 .omega
 rename_i O;split at h
 .cases h
 rename_i U;intro x hx;have hv:=Sk J x hx;grind
def Qr(p:Proc)(args:List AV):APure prog 105 [.agg p.c,.slice (args.map AV.c)] (I (gU p args)):=by
 refine od func105 ntmps105 λE h B hh Q hb=>?_;refine M ?_;refine nc (Mp p) (M ?_)
 repeat refine⟨W,?_⟩
 refine og (λL=>?_) (λL=>?_)
 .refine M ?_;grind[gU]
 have jR:jK p=0/\args.length=p.params.length:=W;have e0:gU p args=if kG p.params args=true then 0 else 10:=by grind[gU]
 rw[e0];refine M ?_;refine po args.length (λn=>kG (p.params.drop n) (args.drop n)=kG p.params args) (λn=>⟨[(1,.slice (args.map AV.c)),(2,P0 h.length),(5,I n)],h++[.cells p.c]⟩) Z ng ?_;intro n hn z;simp[go_sem]at hb;have hw:=oi hn (show _<=68719476736 by first|exact hb.2.1|exact hb.2|exact hb.1.2.1.1|omega);refine nf (λhc=>?_) (λhc=>?_)
 .have sq:n<p.params.length:=J;rw[ov hc,ov sq,kG]at z;simp-dsimp[go_sem,B,hc,sq];refine pf 10 ?_;simp-dsimp[go_sem,B,hc,sq];refine nc (YI p.params[n] args[n] (Vu jR.1 _ (ij sq))) ?_;refine nf (λO=>?_) (λO=>?_)
  .simp-dsimp[go_sem,B,<-z,O]
  refine Qaa ?_;exact⟨hc,by simpa[O]using z,ng⟩
 rw[gq (show p.params.length<=n by omega),gq (show args.length<=n by omega)]at z;have hI':kG p.params args=true:=by grind[kG]
 rw[gh hI']at e0;rw[gh hI'];exact Qek
end
def Xm(op:Int):APure prog 245 [I op] (Bo (uP op)):=by
 refine od func245 ntmps245 λE h B hh Q hb=>?_;simp-dsimp[go_sem,B,uP]
 try grind
theorem Ml(e:Ex):(oR e).length=nodes e:=by simp[oR,nodes]
theorem QD:∀l:List Vt,(pA l).length<=l.length
 | []=>by simp[pA]
 |v::l=>by have:=QD l;grind[pA]
def LH(e:Ex)(hB:nodes e<=1000000):APure prog 244 [.agg e.x] (.slice ((oR e).map qe)):=by
 refine xZ func244 rfl ah (by simp[ntmps244]) rfl ?_;intro E h B hh Q hb;rw[ntmps244]at B;simp[go_sem]at hb;refine yv (pY ?_);simp[go_sem,B];refine yv (qU [_,_] _ ?_);simp[go_sem,B];intro c a w s k;refine qkx s k (x:=.tmp 6) (el:=3) (d1:=7) rfl rfl J rfl Z Z Z af (v:=.int .i64 e.op) af rfl λc' a' w' s' k'=>?_;refine lF _ [_,_,_] _ rfl ?_ c' a' w' s' k';simp[go_sem,B];apply yd;refine M ?_;refine u4 (α:=List Int) e.args.length (λn o=>o++tW (e.args.drop n)=oR e/\o.length+lM (e.args.drop n)<=1000000) (λn o=>⟨[(1,P0 h.length),(3,.own (h.length+1) o.length),(4,I n)],h++[.cells e.x,.arr 3 1 (o.map qe)]⟩) [e.op] ⟨by rw[TY];simp,by have:=Cm e;simp;omega⟩ ng ?_;rintro n o hn ⟨z,ho⟩;have hw:=oi hn (show _<=68719476736 by first|exact hb.2.1|omega);refine nf (λhc=>?_) (λhc=>?_)
 .rw[ov hc,OT]at z;rw[ov hc,CP]at ho;have ni:SizeOf.sizeOf e.args[n]<SizeOf.sizeOf e:=Ex.arg_lt (ij hc);have hOps:=LH e.args[n] J;have nK:(oR e.args[n]).length=nodes e.args[n]:=Ml _;obtain⟨h1,hO⟩:=Qaj (oR e.args[n])
  rw[hO]at z nK hOps;refine Qab ?_;refine nc hOps ?_;simp-dsimp[go_sem,B,hc,hw];refine⟨J,o++h1,⟨by rw[jf];exact z,au⟩,ng⟩
 rw[gq J]at z;have hI':o=oR e:=by grind[dI]
 obtain⟨h1,hO⟩:=Qaj (oR e)
 rw[hO]at hI'|-;simp-dsimp[go_sem,B,hI'];grind
termination_by SizeOf.sizeOf e
def qsk(p:Proc):APure prog 216 [.agg p.c] (.tuple [I (tI p).1,I (tI p).2.1,Bo (tI p).2.2]):=by
 refine od func216 ntmps216 λE h B hh Q hb=>?_;refine M ?_;refine nc (Sh p) ?_;refine nf (λL=>?_) (λL=>?_)
 .simp-dsimp[go_sem,B,tI,L]
 have hk:∀x∈yt p,nodes x<=4096:=λx hx=>by have:=Il x 1 12 (qn0 L x hx) J;omega
 have oy:(yt p).length<=401:=by rw[P5];have O:=(zD (eR (σ:=Unit)) tz p ()).1;grind[QD]
 rw[qss L];refine M ?_;have hEx:=Yw p;rw[<-P5]at hEx;obtain⟨h0,hL⟩:=Qaj (yt p)
 rw[hL]at hk oy hEx|-;refine nc hEx (M ?_);obtain⟨R,hR⟩:=Qaj (yS (tW h0) 0)
 rw[hR];refine u4 (α:=Nat) h0.length (λn m=>yS (tW (h0.drop n)) m=R/\m<=4096 * n) (λn m=>⟨[(5,.slice (h0.map Ex.c)),(6,I m),(7,I n)],h⟩) 0 ⟨by simpa using hR,J⟩ ng ?_;intro n m hn ⟨z,hm⟩;have hw:=oi hn (show _<=68719476736 by omega);refine nf (λhc=>?_) (λhc=>?_)
 .have hkn:=hk _ (ij hc);rw[ov hc,OT]at z;refine Qab ?_;have hOps:=LH h0[n] J;have nK:(oR h0[n]).length<=4096:=by grind[Ml]
  obtain⟨h1,hO⟩:=Qaj (oR h0[n])
  rw[hO]at z nK hOps;refine nc hOps (M ?_);refine po h1.length (λk=>yS (h1.drop k++tW (h0.drop (n+1))) ((m+k:Nat):Int)=R) (λk=>⟨[(5,.slice (h0.map Ex.c)),(6,I ((m+k:Nat):Int)),(7,I n),(8,.slice (h1.map qe)),(9,I k)],h⟩) W ng ?_;intro k vk hJ;have uc:=oi vk (show _<=68719476736 by omega);have hw3:IntKind.i64.wrap (((m+k:Nat):Int)+1)=((m+(k+1):Nat):Int):=cq;have hw4:IntKind.i64.wrap ((m:Int)+(k:Int)+1)=(m:Int)+((k:Int)+1):=W;refine nf (λiY=>?_) (λiY=>?_)
  .rw[ov iY,mb,yS]at hJ;simp-dsimp[go_sem,B,iY,qe];refine nc (Xm h1[k]) (M ?_);refine og ?_ ?_<;>intro hg<;>try simp at hg
   .rw[gh hg]at hJ;simp-dsimp[go_sem,B,iY,qe];grind
   rw[gg (by simp[hg])]at hJ;simp-dsimp[go_sem,B,uc,hw3,hw4];exact⟨iY,by rw[<-hJ];congr 1,ng⟩
  have hkO:k=h1.length:=J;subst hkO;rw[gq J,ke]at hJ;refine Qaa ?_;exact⟨hc,m+h1.length,⟨hJ,J⟩,ng⟩
 rw[gq J]at z;have:yS (tW []) m=(0,0,false):=rfl;rw[this]at z;exact Qee
def Mh(p:Proc):APure prog 188 [.agg p.c] (I (lS p)):=by
 refine od func188 ntmps188 λE h B hh Q hb=>?_;refine M ?_;refine nc (Mp p) ?_;refine nf (λL=>?_) (λL=>?_)
 .simp-dsimp[go_sem,B,lS,L]
 refine M ?_;refine nc (qsk p) (M ?_);refine og ?_ ?_<;>intro O<;>try simp at O
 .simp-dsimp[go_sem,B,lS,L,O]
 simp-dsimp[go_sem,B,lS,L,O]
section
attribute [local go_sem] Cnt.c
def fN(n:Int):APure prog 279 [I n] (I (mW n)):=by refine od func279 ntmps279 λE h B hh Q hb=>?_;refine M ?_;simp[mW,mn]
def xN(x y:Cnt):APure prog 247 [.agg x.c,.agg y.c] (.agg (x.plus y).c):=by
 refine od func247 ntmps247 λE h B hh Q hb=>?_;refine M ?_;refine pf 23 (M ?_)
 first|refine nc (fN _) ?_|refine p7 (fN _) (λ_=>trivial) ?_
 refine M ?_
 first|refine nc (fN _) ?_|refine p7 (fN _) (λ_=>trivial) ?_
 refine M ?_
 first|refine nc (fN _) ?_|refine p7 (fN _) (λ_=>trivial) ?_
 refine M ?_
 first|refine nc (fN _) ?_|refine p7 (fN _) (λ_=>trivial) ?_
 refine M ?_;simp[Cnt.plus,mW]
def QK(x y:Cnt):APure prog 248 [.agg x.c,.agg y.c] (.agg (x.larger y).c):=by refine od func248 ntmps248 λE h B hh Q hb=>?_;refine M ?_;simp[Cnt.larger,mx]
def L3(k:Int)(x:Cnt):APure prog 249 [I k,.agg x.c] (.agg (Cnt.rtimes k x).c):=by
 refine od func249 ntmps249 λE h B hh Q hb=>?_;refine M ?_;refine pf 19 (M ?_)
 first|refine nc (fN _) ?_|refine p7 (fN _) (λ_=>trivial) ?_
 refine M ?_
 first|refine nc (fN _) ?_|refine p7 (fN _) (λ_=>trivial) ?_
 refine M ?_
 first|refine nc (fN _) ?_|refine p7 (fN _) (λ_=>trivial) ?_
 refine M ?_
 first|refine nc (fN _) ?_|refine p7 (fN _) (λ_=>trivial) ?_
 refine M ?_;simp[Cnt.rtimes,mW]
def B2(e:Ex):APure prog 280 [.agg e.x] (I (oO e)):=by
 refine ry func280 ntmps280 λE h B hh Q hb=>?_;rw[qo9];obtain⟨hr,hG⟩:∃hr:Int,hr=if e.op=22\/e.op=23\/e.op=24 then 1 else 0:=⟨_,rfl⟩
 rw[<-hG];refine M ?_;refine og (λO=>?_) (λO=>?_)
 .have hv:hr=1:=by rw[hG,gh W]
  refine M ?_;refine u4 (α:=Int) e.args.length (λn m=>oC (e.args.drop n) m=oC e.args hr) (λn m=>⟨[(1,.ptr h.length 0),(3,I m),(4,I n)],h++[.cells e.x]⟩) hr Z (ng ew) ?_;intro n m hn z;have hw:=oi hn hb.2.1;refine nf (λhc=>?_) (λhc=>?_)
  .exact Qic
  rw[gq J,oC]at z;simp-dsimp[go_sem,B,z]
 have hv:hr=0:=by rw[hG,gg W]
 refine M ?_;refine u4 (α:=Int) e.args.length (λn m=>oC (e.args.drop n) m=oC e.args hr) (λn m=>⟨[(1,.ptr h.length 0),(3,I m),(4,I n)],h++[.cells e.x]⟩) hr Z (ng ew) ?_;intro n m hn z;have hw:=oi hn hb.2.1;refine nf (λhc=>?_) (λhc=>?_)
 .exact Qic
 rw[gq J,oC]at z;simp-dsimp[go_sem,B,z]
termination_by SizeOf.sizeOf e
def S9(t:St):APure prog 246 [.agg t.x] (.agg (vD t).c):=by
 refine od func246 ntmps246 λE h B hh Q hb=>?_;refine M ?_;refine pf 10 (M ?_)
 first|refine nc (B2 t.a) ?_|refine p7 (B2 t.a) (λ_=>trivial) ?_
 refine M ?_
 first|refine nc (B2 t.b) ?_|refine p7 (B2 t.b) (λ_=>trivial) ?_
 refine M ?_
 first|refine nc (fN _) ?_|refine p7 (fN _) (λ_=>trivial) ?_
 refine M ?_;by_cases h3:t.op=3\/t.op=4
 .have h7:t.op≠7:=J;have e:vD t=⟨1,mW (p9 (oO t.a+oO t.b)),1,0⟩:=by grind[vD]
  rw[e];refine og (λh=>?_) (λh=>by simp at h;omega);simp-dsimp[go_sem,B,h7]
 by_cases h7:t.op=7
 .have e:vD t=⟨1,mW (p9 (oO t.a+oO t.b)),0,1⟩:=by unfold vD;rw[gg h3,gh h7]
  exact Qid
 have e:vD t=⟨1,mW (p9 (oO t.a+oO t.b)),0,0⟩:=by unfold vD;rw[gg h3,gg h7]
 exact Qid
def By(l:List St):APure prog 217 [.slice (l.map St.c)] (.agg (zZ l).c):=by
 refine ry func217 ntmps217 λE h B hh Q hb=>?_;refine M ?_;refine u4 (α:=Cnt) l.length (λn c=>uN (l.drop n) c=zZ l) (λn c=>⟨[(0,.slice (l.map St.c)),(2,P0 h.length),(3,P0 (h.length+1)),(4,I n)],h++[.cells [I 0,I 0,I 0,I 0],.cells c.c]⟩) ⟨0,0,0,0⟩ Z ng ?_;intro n c hn z;have hw:=oi hn (show _<=68719476736 by first|exact hb.1|exact hb|omega);refine nf (λhc=>?_) (λhc=>?_)
 rotate_left
 .rw[gq J,uN]at z;exact Qem
 rw[ov hc,uN,Mf]at z;have hlt1:SizeOf.sizeOf l[n].body<SizeOf.sizeOf l:=Nat.lt_trans (St.body_le _) (km (ij hc));have vT:SizeOf.sizeOf l[n].els<SizeOf.sizeOf l:=Nat.lt_trans (St.els_le _) (km (ij hc));refine Qab ?_;refine nc (S9 l[n]) (M ?_);by_cases h5:l[n].op=5
 .have h6:l[n].op≠6:=J;simp only[h5,iz,show ¬(5:Int)=6 by decide,jg]at z;simp-dsimp[go_sem,B,h5];refine pf 8 (M ?_)
  first|refine nc (By l[n].body) ?_|refine p7 (By l[n].body) (λ_=>trivial) ?_
  refine M ?_
  first|refine nc (By l[n].els) ?_|refine p7 (By l[n].els) (λ_=>trivial) ?_
  refine M ?_
  first|refine nc (QK _ _) ?_|refine p7 (QK _ _) (λ_=>trivial) ?_
  refine M ?_
  first|refine nc (xN _ _) ?_|refine p7 (xN _ _) (λ_=>trivial) ?_
  simp-dsimp[go_sem,B,h5];exact Qie
 by_cases h6:l[n].op=6
 .simp only[h6,iz,show ¬(6:Int)=5 by decide,jg]at z;simp-dsimp[go_sem,B,h6];refine pf 11 (M ?_)
  first|refine nc (By l[n].body) ?_|refine p7 (By l[n].body) (λ_=>trivial) ?_
  refine M ?_
  first|refine nc (L3 l[n].max _) ?_|refine p7 (L3 l[n].max _) (λ_=>trivial) ?_
  refine M ?_
  first|refine nc (xN _ _) ?_|refine p7 (xN _ _) (λ_=>trivial) ?_
  refine M ?_
  first|refine nc (xN _ ⟨l[n].max,0,0,0⟩) ?_|refine p7 (xN _ ⟨l[n].max,0,0,0⟩) (λ_=>trivial) ?_
  refine M ?_;exact Qie
 simp only[h5,h6,jg]at z;simp-dsimp[go_sem,B,h5,h6];exact Qie
termination_by SizeOf.sizeOf l
def qn3{p:Proc}(h:lS p=0):zo p=0:=by grind[lS,jK]
def qpo(p:Proc)(hd0:lS p=0):APure prog 189 [.agg p.c] (.tuple [.agg (yp p.body).c,Bo true]):=by refine od func189 ntmps189 λE h B hh Q hb=>?_;have hv:=qn3 hd0;have G:=qlw (CC hv);have rB:=By p.body;rw[G]at rB;have hck:=Mh p;rw[hd0]at hck;refine M ?_;refine nc hck (M ?_);refine nc rB ?_;exact Qek
def YP(p:Proc):APure prog 151 [.agg p.c] (I (aO p)):=by
 refine od func151 ntmps151 λE h B hh Q hb=>?_;refine M ?_;refine nc (Mh p) ?_;refine nf (λL=>?_) (λL=>?_)
 .simp-dsimp[go_sem,B,aO,L]
 have hOf:=qpo p L;refine M ?_;refine nc hOf ?_;refine nf (λO=>?_) (λO=>?_)
 .simp-dsimp[go_sem,B,aO,L,O]
 refine M ?_
 repeat refine⟨W,?_⟩
 refine og (λU=>?_) (λU=>?_)
 .have e:aO p=2:=by
   grind[aO]
  exact Qhk
 have e:aO p=0:=by grind[aO]
 exact Qhk
end
section
attribute [local go_sem] mC
variable {C:Cfg} {tT:TypeId} {tx:Nat×Nat} {g m v o io ir ip:Nat} {K:MQ->mz} {n0:Nat}
end
section
attribute [local go_sem] RM.c
def ZZ:∀n,i64 n->APure prog 317 [I n] (my (pw n)):=λn hn=>ZI n hn
def S7(p:Proc)(args:List AV)(st:List Pr)(ft:Foot)(z:RunIn pw p args st):APure prog 106 [.agg p.c,.slice (args.map AV.c),.slice (st.map Pr.c),.agg ft.c] (.agg (un pw p args st ft).c):=by
 refine ry func106 ntmps106 λE h B hh Q hb=>?_;rw[<-Z3 z];have pD:(aO p≠0\/gU p args≠0\/ph st=false\/vi ft.all ft.reads ft.writes=false)↔¬dK p args st ft:=by grind[dK]
 refine M ?_;refine nc (YP p) (M ?_);refine pz (Qr p args) Z (M ?_);refine pz (zR st) Z (M ?_);refine pz (qp1 ft) Z (M ?_)
 repeat refine⟨W,?_⟩
 refine ox (λL=>?_) (λL=>?_)
 .have e1:A0 pw p args st ft=bI:=by unfold A0;rw[gh W]
  rw[e1];refine M ?_;refine nc VW ?_;exact Qek
 have pg:dK p args st ft:=W;have zi:=(nB _ _ _ _).1 pg;have oy:=(FT zi.2.1).1;have hfew:=N6 (JF zi.1);have e1:A0 pw p args st ft=BR (u6 (ya pw st ft) p.body (A1 p args)):=by grind[A0]
 rw[e1];refine M ?_;refine u4 (α:=List Pr) args.length (λn vs=>lT (p.params.drop n) (args.drop n) vs=lT p.params args []/\vs.length<=n) (λn vs=>⟨[(1,.slice (args.map AV.c)),(4,P0 h.length),(8,P0 (h.length+2)),(9,P0 (h.length+3)),(10,I n)],h++[.cells p.c,.cells ft.c,effZ,.cells (RM.c (ya pw st ft) ⟨vs,[],0,0,[],[],[],em,0⟩)]⟩) [] Z ng ?_;rintro n vs hn ⟨za,hvl⟩;have hw:=oi hn (show _<=68719476736 by omega);refine nf (λhc=>?_) (λhc=>?_)
 .have sq:n<p.params.length:=J;rw[ov hc,ov sq,lT]at za;simp-dsimp[go_sem,B,hc,sq];refine pf 13 ?_;simp-dsimp[go_sem,B,hc,sq];refine nc (Ff vs ⟨p.params[n].name,args[n]⟩ J) (Qaa ?_);have:=HE vs ⟨p.params[n].name,args[n]⟩;exact⟨_,⟨za,J⟩,ng⟩
 rw[gq (show args.length<=n by omega),gq (show p.params.length<=n by omega),show lT [] [] vs=vs by simp[lT]]at za;subst za;have hsi:=Nq p.params args [] z.args Z;have nC:RInv 0 0 (A1 p args):=⟨hsi.1,Z,Z,Z,Z,Z,Z,by have:=hsi.2;simp at this|-;omega,Z⟩
 have hC:bU (ya pw st ft):=λq hq=>z.st q hq;refine M ?_;refine nc (IU (ya pw st ft) hC z.fmt ZZ p.body 1 (A1 p args) (A8 zi.1) (BM zi.1 z.body) nC rfl) ?_;obtain⟨PA,hM⟩:=Qaj (u6 (ya pw st ft) p.body (A1 p args))
 rw[hM];refine M ?_;refine nc (yR (ya pw st ft) PA) ?_;refine nf (λO=>?_) (λO=>?_)
 .refine M ?_;refine nc (Ti (ya pw st ft) PA) ?_;simp-dsimp[go_sem,B,BR,O]
 refine M ?_;refine nc (YW (ya pw st ft) PA) ?_;simp-dsimp[go_sem,B,BR,O]
variable {tT:TypeId} {tx:Nat×Nat} {g:Nat}
end
def qo0(nb:List Proc)(name:na):APure prog 104 [.slice (nb.map Proc.c),my name] (.tuple [.agg ((Ax nb name).getD BN).c,Bo (Ax nb name).isSome]):=by
 refine ry func104 ntmps104 λE h B hh Q hb=>?_;refine M ?_;refine po nb.length (λn=>(nb.drop n).find? (λp=>decide (p.name=name))=Ax nb name) (λn=>⟨[(0,.slice (nb.map Proc.c)),(1,my name),(4,P0 h.length),(6,I n)],h++[.cells [my em,.nils,.nils]]⟩) (by simp[Ax]) ng ?_;intro n hn z;have hw:=oi hn (show _<=68719476736 by omega);refine nf (λhc=>?_) (λhc=>?_)
 .rw[ov hc]at z;refine Qab ?_;refine ox (λO=>?_) (λO=>?_)
  .rw[List.find?_cons_of_pos W]at z;refine Qab ?_;simp[<-z,Proc.c]
  rw[List.find?_cons_of_neg W]at z;exact Qfx
 rw[gq J]at z;refine M ?_;simp[<-z,BN,Proc.c]
def UD(nb:List Proc)(s:List Pr)(t:Txn)(z:∀p,lB nb t=some p->RunIn pw p t.args s)(hL:s.length<=60000000000) :
  APure prog 65 [.slice (nb.map Proc.c),.slice (s.map Pr.c),.agg t.c] (.tuple [.slice ((vx pw nb s t).1.map Pr.c),.agg (vx pw nb s t).2.c]):=by
 refine od func65 ntmps65 λE h B hh Q hb=>?_;simp[go_sem,Txn.c]at hb;obtain⟨R,hR⟩:=Qaj (vx pw nb s t)
 rw[hR];unfold vx at hR;have bZ:lB nb t=match Ax nb t.proc with|none=>none|some p=>if gU p t.args=0 then some p else none:=rfl
 simp-dsimp[go_sem,B,Txn.c];refine nc (qo0 nb t.proc) ?_;rcases hF:Ax nb t.proc with _|p
 .rw[hF]at bZ;simp only at bZ;rw[bZ]at hR;simp only at hR;subst hR;simp-dsimp[go_sem,B,BN];refine BP ?_;simp-dsimp[go_sem,B,bI]
 rw[hF]at bZ;simp only at bZ;refine M ?_;refine pz (Qr p t.args) Z ?_;refine nf (λL=>?_) (λL=>?_)
 .rw[gg L]at bZ;rw[bZ]at hR;simp only at hR;subst hR;simp-dsimp[go_sem,B,bI]
 rw[gh L]at bZ;have Bk:=z p bZ;rw[bZ]at hR;simp only at hR;have tg:=λh=>JN (fmt:=pw) (p:=p) (args:=t.args) (s:=s) (ft:=t.ft) h;have sq:=λh=>(EG (ft:=t.ft) Bk h).2.2;have hlw:=FN (ft:=t.ft) Bk;have lK:=S7 p t.args s t.ft Bk;obtain⟨e,he⟩:=Qaj (un pw p t.args s t.ft)
 rw[he]at hR tg sq hlw lK;refine M ?_;refine nc lK ?_;refine nf (λO=>?_) (λO=>?_)
 .rw[gg O]at hR;subst hR;refine M ?_;refine pf 3 ?_;exact Qek
 rw[gh O]at hR;subst hR;have hA:=LV s e.writes J;rw[tg O,sq O]at hA;simp only[Bool.and_self,iz]at hA;refine M ?_;refine nc hA (M ?_);refine pf 3 ?_;exact Qek
def qnh(nb:List Proc)(s:List Pr)(l:List Txn)(hB:BatchIn pw nb l)(hs:q8 s)(hL:s.length+64 * l.length<=60000000000) :
  APure prog 33 [.slice (nb.map Proc.c),.slice (s.map Pr.c),.slice (l.map Txn.c)] (.tuple [.slice ((vp pw nb s l).1.map Pr.c),.slice ((vp pw nb s l).2.map Eff.c)]):=by
 refine ry func33 ntmps33 λE h B hh Q hb=>?_;refine M ?_;refine po l.length (λn=>True) (λn=>⟨[(0,.slice (nb.map Proc.c)),(1,.slice ((vp pw nb s (l.take n)).1.map Pr.c)),(2,.slice (l.map Txn.c)),(8,.own h.length n),(9,I n)],h++[.arr 82 8 ((vp pw nb s (l.take n)).2.map Eff.c)]⟩) trivial ((mF E _ 8 82 8 af).trans ?_) ?_
 .simp[vp];exact ng
 intro n hn _;have hw:=oi hn (show _<=68719476736 by omega);obtain⟨hrs,u3,hrc⟩:=Zu (fmt:=pw) (nb:=nb) hs hB n hn;refine nf (λhc=>?_) (λhc=>?_)
 .have jT:=WI (fmt:=pw) (nb:=nb) (s:=s) hc;have tc:=UD nb (vp pw nb s (l.take n)).1 l[n] (qri hB hrs (ij hc)) J;obtain⟨X,hX⟩:=Qaj (vp pw nb s (l.take n))
  rw[hX]at jT hrs u3 hrc tc;simp only[hX];obtain⟨h1,hO⟩:=Qaj (vx pw nb X.1 l[n])
  rw[hO]at jT tc;simp-dsimp[go_sem,B,hc,Txn.c];refine nc tc ?_;simp-dsimp[go_sem,B,hw,hrc,Eff.c];refine⟨J,hc,?_⟩;rw[jT];exact(Wk.mk bb af cu (by simp[go_sem,Eff.c]))
 refine M ?_;rw[gh hrc,ll J];exact⟨rfl,rfl⟩
def qna(p:Plc)(l:List Shard):APure prog 11 [.agg p.c,.slice (l.map Shard.c)] (Bo (mJ p l)):=by
 have xc:=uR p;have ug:=Fj p;obtain⟨R,hR⟩:=Qaj (mJ p l)
 have oy:=L5 (p:=p) (l:=l);rw[hR]at oy|-;unfold mJ at hR;obtain⟨v,hv⟩:=Qaj (qw p)
 rw[hv]at hR ug;obtain⟨ns,hns⟩:=Qaj (uk p)
 have AZ:=LO p;rw[hns]at hR oy xc AZ;refine od func11 ntmps11 λE h B hh Q hb=>?_;simp[go_sem,Plc.c]at hb;simp-dsimp[go_sem,B,Plc.c];refine nc ug (M ?_);cases v with
 |false =>
  simp at hR;exact Qeu
 |true =>
 rw[jb]at hR;refine M ?_;refine nc AZ ?_;refine nf (λL=>?_) (λL=>?_)
 .have:R=false:=oy J;subst this;exact Qek
 have O:l.length=ns.length:=J;simp-dsimp[go_sem,B,Plc.c];refine po l.length (λn=>(decide ((l.drop n).map (·.node)=ns.drop n)&&(l.drop n).all (mK p))=R) (λn=>⟨[(1,.slice (l.map Shard.c)),(2,.ptr h.length 0),(5,.slice (ns.map qe)),(6,I n)],h++[.cells [I p.ver,.slice (p.parts.map Part.c)]]⟩) W ng ?_
 intro n hn z;have hw:=oi hn (show l.length<=68719476736 by omega);refine nf (λhc=>?_) (λhc=>?_)
 rotate_left
 .exact Qhd
 have sq:n<ns.length:=J;rw[ov hc,ov sq,Nt]at z;have y3:l[n].prs.length<=68719476736:=by have:=A5.1 hb.2.2 _ (ig.2 ⟨_,ij hc,rfl⟩);simp[go_sem]at this;omega
 obtain⟨X,hX⟩:=Qaj (l[n])
 rw[hX]at z y3;simp-dsimp[go_sem,B,hc,sq,hX];refine pf 13 ?_;simp-dsimp[go_sem,B,hc,sq,hX,qe];refine pz (zR X.prs) Z ?_;refine nf (λhg=>?_) (λhg=>?_)
 .have:(decide (X.node=ns[n])&&mK p X)=false:=by
   grind[mK]
  rw[this,ly]at z;exact Qes
 rw[show mK p X=(ph X.prs&&X.prs.all λq=>decide (sg p q.key=X.node))from rfl,ki hg.1,hg.2,jb,jb]at z;obtain⟨iK,wu⟩:=hg;rw[lz]at z;obtain⟨ac,hZ⟩:∃ac,(decide (List.drop (n+1) (List.map (λx=>x.node) l)=List.drop (n+1) ns)&&(List.drop (n+1) l).all (mK p))=ac:=⟨_,rfl⟩
 rw[hZ]at z;refine M ?_;refine po X.prs.length (λk=>((X.prs.drop k).all λq=>decide (sg p q.key=X.node))=(X.prs.all λq=>decide (sg p q.key=X.node))) (λk=>⟨[(1,.slice (l.map Shard.c)),(2,.ptr h.length 0),(5,.slice (ns.map qe)),(6,I n),(7,I k)],h++[.cells [I p.ver,.slice (p.parts.map Part.c)]]⟩) Z ng ?_;intro k hk hJ;have hwk:=oi hk y3;simp-dsimp[go_sem,B,hc,hX];refine ox (λhd=>?_) (λhd=>?_)
 .rw[ov hd,qin]at hJ;simp-dsimp[go_sem,B,hc,hX,sq,hd];refine pf 15 ?_;simp-dsimp[go_sem,B,hc,hX,sq,hd,qe];refine p7 (Pj p _ hv) Z ?_;simp-dsimp[go_sem,B,hc,hX,sq,hd,qe];refine ox (λhe=>?_) (λhe=>?_)
  .rw[iK,decide_eq_false he,ly]at hJ;rw[iK,<-hJ,ly]at z;exact Qes
  rw[iK,ki he,jb,<-iK]at hJ;simp-dsimp[go_sem,B,hwk];exact⟨hd,hJ,ng⟩
 rw[gq J,qjc]at hJ;rw[<-hJ,jb]at z;refine Qaa ?_;exact⟨hc,by rw[hZ];exact z,ng⟩
def TF(p:Plc)(s:List Pr):APure prog 15 [.agg p.c,.slice (s.map Pr.c)] (.slice ((cT p s).map Shard.c)):=by
 have ug:=Fj p;have xc:=uR p;have AZ:=LO p;have nv:cT p s=if (qw p&&ph s)=true then(uk p).map λn=>⟨n,wc p s n⟩else []:=rfl;obtain⟨v,hv⟩:=Qaj (qw p)
 rw[hv]at ug nv;rw[nv];refine od func15 ntmps15 λE h B hh Q hb=>?_;simp[go_sem,Plc.c]at hb;simp-dsimp[go_sem,B,Plc.c];refine nc ug (M ?_);refine pz (zR s) Z ?_;refine nf (λL=>?_) (λL=>?_)
 .rw[gg W];exact Qek
 obtain⟨rfl,O⟩:=L;rw[gh W];simp-dsimp[go_sem,B,Plc.c];refine nc AZ (M ?_);obtain⟨l,hl⟩:=Qaj (uk p)
 rw[hl]at xc|-;obtain⟨hr,hG⟩:∃hr:Int->Shard,hr=λn=>⟨n,wc p s n⟩:=⟨_,rfl⟩
 rw[show(l.map λn=>(⟨n,wc p s n⟩:Shard))=l.map hr by rw[hG]];obtain⟨F,hF⟩:∃F:Nat->List Shard,F=λn=>(l.take n).map hr:=⟨_,rfl⟩
 have jW:F 0=[]:=W;have dE:F l.length=l.map hr:=W;have aB:∀n (hn:n<l.length),F (n+1)=F n++[hr l[n]]:=λn hn=>by grind[jn]
 have bX:∀n,(F n).length<=16:=λn=>by grind
 rw[<-dE];refine po l.length (λ_=>True) (λn=>⟨[(1,.slice (s.map Pr.c)),(2,.ptr h.length 0),(5,.slice (l.map qe)),(6,.own (h.length+1) (F n).length),(7,I n)],h++[.cells [I p.ver,.slice (p.parts.map Part.c)],.arr 53 2 ((F n).map Shard.c)]⟩) trivial ((mF E _ 6 53 2 af).trans ct) ?_;intro n hn _;have hw:=oi hn (show l.length<=68719476736 by omega);have aG:=bX n;refine nf (λhc=>?_) (λhc=>?_)
 .have hs:=aB n hc;obtain⟨node,Gs⟩:=Qaj (l[n])
  rw[Gs]at hs;simp-dsimp[go_sem,B,hc,qe,Gs];obtain⟨K,hK⟩:∃K:Nat->List Pr,K=λj=>wc p (s.take j) node:=⟨_,rfl⟩
  have hK0:K 0=[]:=qih;have hKe:K s.length=wc p s node:=W;have hK1:∀j (hj:j<s.length),K (j+1)=K j++(if decide (sg p s[j].key=node)=true then [s[j]]else []):=λj hj=>by rw[hK];exact Dw hj
  have hKl:∀j,(K j).length<=j:=λj=>by rw[hK];exact DP _ _ _
  refine po s.length (λ_=>True) (λj=>⟨[(1,.slice (s.map Pr.c)),(2,.ptr h.length 0),(5,.slice (l.map qe)),(6,.own (h.length+1) (F n).length),(7,I n),(8,.ptr (h.length+2) 0),(9,I j)],h++[.cells [I p.ver,.slice (p.parts.map Part.c)],.arr 53 2 ((F n).map Shard.c),.cells [I node,.own (h.length+3) (K j).length],.arr 59 4 ((K j).map Pr.c)]⟩) trivial
   ((pJ E _ (p:=h.length+2) (j:=1) (t:=59) (sz:=4) (xs:=[I node,.nils]) Z Z).trans (by rw[hK0];exact ng)) ?_
  intro j hj _;have hwj:=oi hj hb.2.1;have hj1:=hKl j;have pL:=hK1 j;refine nf (λhd=>?_) (λhd=>?_)
  .have pL:=pL hd;simp-dsimp[go_sem,B,hd];refine pf 11 ?_;simp-dsimp[go_sem,B,hd,hc,Gs,qe];refine p7 (Pj p _ hv) Z ?_;simp-dsimp[go_sem,B,hd,hc,Gs,qe];refine ox (λhe=>?_) (λhe=>?_)
   .rw[gh W]at pL;refine M ?_;refine pf 7 ?_;simp-dsimp[go_sem,B,hwj,hd];refine⟨J,?_⟩;rw[pL];exact ng
   rw[gg W,jv]at pL;simp-dsimp[go_sem,B,hwj];refine⟨hd,?_⟩;rw[pL];exact ng
  have hjj:j=s.length:=J;subst hjj;rw[hKe];have hGc:(hr node).c=[I node,.slice ((wc p s node).map Pr.c)]:=by rw[hG];rfl
  refine Qaa ?_;refine⟨J,hc,?_⟩;rw[hs,jr,jd,kf,hGc];exact ng
 have bL:n=l.length:=J;exact Qfw
def qkw(l:List Shard)(hB:oL l<68719476736):APure prog 20 [.slice (l.map Shard.c)] (.tuple [.slice ((kT l).1.map Pr.c),I (kT l).2]):=by
 obtain⟨R,hR⟩:=Qaj (kT l)
 rw[hR];unfold kT at hR;refine ry func20 ntmps20 λE h B hh Q hb=>?_;refine M ?_;refine po l.length (λn=>vK (match n with| 0=>none|m+1=>(l[m]?).map (·.node)) (l.drop n)=vK none l) (λn=>⟨[(0,.slice (l.map Shard.c)),(4,I n)],h⟩) Z ng ?_
 intro n hn z;have hw:=oi hn hb.1;refine nf (λhc=>?_) (λhc=>?_)
 .rw[ov hc]at z;obtain⟨X,hX⟩:=Qaj (l[n])
  rw[hX]at z;cases n with
  |zero =>
   rw[vK]at z;simp-dsimp[go_sem,B,hc,hX];refine pf 19 ?_;simp-dsimp[go_sem,B,hc,hX];refine pz (zR X.prs) Z ?_;refine nf (λhg=>?_) (λhg=>?_)
   .rw[hg,Bool.and_false,ly]at z;rw[gg W]at hR;exact Qeu
   rw[hg,kg,jb]at z;refine Qaa ?_;refine⟨hc,?_,ng⟩;simp only[ii hc,hX,kn];simpa using z
  |succ m =>
   have hm:m<l.length:=J;have uc:=uG (kb hm) hb.1;have hw3:IntKind.i64.wrap ((m:Int)+1+1)=(m:Int)+1+1:=W;have ht3:((m:Int)+1).toNat=m+1:=J;simp only[ii hm,kn]at z;rw[vK]at z;simp-dsimp[go_sem,B,hc,hX];refine pf 19 ?_;simp-dsimp[go_sem,B,uc,hm,hc,hX,ht3];refine⟨J,λhh=>⟨hh,J⟩,?_⟩;refine pz (zR X.prs) Z ?_;refine nf (λhg=>?_) (λhg=>?_)
   .have:(decide (l[m].node<X.node)&&ph X.prs)=false:=by
     rcases hg with hg|hg
     .grind
     grind
    rw[this,ly]at z;rw[gg W]at hR;exact Qeu
   rw[ki J,hg.2,jb,jb]at z;simp-dsimp[go_sem,B,hw3];refine⟨hc,?_,ng⟩;simp only[ii hc,hX,kn];exact z
 have bL:n=l.length:=J;subst bL;have hgo:vK none l=true:=by grind[gq,vK]
 rw[gh hgo]at hR;refine M ?_;refine u4 (α:=List Pr) l.length (λk out=>pE (l.drop k) out=R/\out.length<=oL (l.take k)) (λk out=>⟨[(0,.slice (l.map Shard.c)),(5,.slice (out.map Pr.c)),(6,I k)],h⟩) [] W ((AB E _).trans ng) ?_;intro k out hk hJ;obtain⟨hJ,hlo⟩:=hJ;have hwk:=oi hk hb.1;refine nf (λhd=>?_) (λhd=>?_)
 .have O:=qk2 hd;have U:=ZM l (k+1);rw[ov hd,pE]at hJ;obtain⟨X,hX⟩:=Qaj (l[k])
  rw[hX]at hJ O;have eD:=Ma out X.prs;simp-dsimp[go_sem,B,hd,hX];refine nc (Ua out X.prs J) ?_;refine nf (λhe=>?_) (λhe=>?_)
  .rw[gh he]at hJ;subst hJ;exact Qek
  rw[gg fx]at hJ;simp-dsimp[go_sem,B,hwk];exact⟨hd,_,⟨hJ,J⟩,ng⟩
 rw[gq J,pE]at hJ;subst hJ;exact Qek
def qlu(nb:List Proc)(p:Plc)(l:List Shard)(A:List Txn)(hB:BatchIn pw nb A)(hs:q8 (kT l).1)(hNl:oL l<68719476736)(hL:(kT l).1.length+64 * A.length<=60000000000) :
  APure prog 17 [.slice (nb.map Proc.c),.agg p.c,.slice (l.map Shard.c),.slice (A.map Txn.c)] (.tuple [.slice ((A4 pw nb p l A).1.map Shard.c),.slice ((A4 pw nb p l A).2.map Eff.c)]):=by
 obtain⟨R,hR⟩:=Qaj (A4 pw nb p l A)
 rw[hR];unfold A4 at hR;refine od func17 ntmps17 λE h B hh Q hb=>?_;simp-dsimp[go_sem,B,Plc.c];refine nc (qna p l) ?_;refine nf (λL=>?_) (λL=>?_)
 .rw[gg bz]at hR;exact Qeu
 rw[gh L]at hR;subst hR;simp-dsimp[go_sem,B,Plc.c];refine nc (qkw l hNl) (M ?_);refine nc (qnh nb (kT l).1 A hB hs hL) (M ?_);refine nc (TF p _) ?_;exact Qek
def jF:na:=⟨#[97]⟩
def J4:na:=⟨#[98]⟩
def VD:na:=⟨#[109]⟩
def oJ:na:=⟨#[122]⟩
def RV:na:=⟨#[99,111,112,121]⟩
def jP:Plc:=⟨0,[⟨1,em,1,0,em⟩,⟨2,VD,2,0,em⟩]⟩
def uY:List Pr:=[⟨jF,vI 1⟩,⟨oJ,vI 2⟩]
def CT:Proc:=⟨RV,[⟨jF,2⟩,⟨J4,2⟩],[.mk 3 em 0 (.mk 3 0 J4 []) (.mk 22 0 em [.mk 3 0 jF []]) [] []]⟩
def B7:Txn:=⟨1,RV,[⟨2,0,jF⟩,⟨2,0,oJ⟩],⟨false,[jF],[oJ]⟩,1⟩
def Ji:Eff:=((vp pw [CT] uY [B7]).2).headD Cw.effZ
theorem HP:qw jP=true:=ah
theorem KK:ph uY=true:=ah
def OG:∀{l m:List Int},l.Pairwise (· < ·)->m.Pairwise (· < ·)->(∀x,x∈l↔x∈m)->l=m
 | [],[],_,_,_=>rfl
 | [],y::m,_,_,h=>by have:=(h y).2 Z;cases this
 |x::l,[],_,_,h=>by have:=(h x).1 Z;cases this
 |x::l,y::m,hl,hm,h=>by
  obtain⟨a1,a2⟩:=jy.1 hl;obtain⟨b1,b2⟩:=jy.1 hm;have e:x=y:=by
   rcases iq.1 ((h x).1 Z)with r|r
   .exact r
   rcases iq.1 ((h y).2 Z)with r2|r2
   .omega
   grind
  subst e;congr 1;refine OG a2 b2 λhI=>?_;have U:=h hI;simp only[iq]at U;constructor
  .grind
  grind
def Xr:uk jP=[1,2]:=by unfold uk;rw[gh HP];refine OG (C4 _) ax λx=>?_;rw[xJ,show fD jP.parts=[1,2]from by kernel_rfl]
theorem Od{s:List Pr}(h:ph s=true):cT jP s=[⟨1,wc jP s 1⟩,⟨2,wc jP s 2⟩]:=by unfold cT;rw[gh (by rw[HP,h];rfl),Xr];rfl
theorem qlv:wc jP uY 1=[⟨jF,vI 1⟩]:=ah
theorem Y5:wc jP uY 2=[⟨oJ,vI 2⟩]:=ah
theorem qlz:wc jP [⟨jF,vI 1⟩,⟨oJ,vI 1⟩] 1=[⟨jF,vI 1⟩]:=ah
theorem VO:wc jP [⟨jF,vI 1⟩,⟨oJ,vI 1⟩] 2=[⟨oJ,vI 1⟩]:=ah
theorem Dh:cT jP uY=[⟨1,[⟨jF,vI 1⟩]⟩,⟨2,[⟨oJ,vI 2⟩]⟩]:=by rw[Od KK,qlv,Y5]
theorem Ts:vp pw [CT] uY [B7]=([⟨jF,vI 1⟩,⟨oJ,vI 1⟩],[Ji]):=ah
theorem WV:Ji.status=1:=ah
theorem Tb:cT jP [⟨jF,vI 1⟩,⟨oJ,vI 1⟩]=[⟨1,[⟨jF,vI 1⟩]⟩,⟨2,[⟨oJ,vI 1⟩]⟩]:=by rw[Od ah,qlz,VO]
section
theorem QE:BatchIn pw [CT] [B7]:=by
 refine⟨Sa,?_,?_⟩
 .intro p hp t ht;simp only[jx]at hp;subst hp;simp only[CT,jx]at ht;subst ht;have hz:i64 0:=⟨ax,ax⟩
  have hk:zb (.mk 3 0 J4 []):=(xM _).2 ⟨⟨hz,ax⟩,by simp[Ex.args]⟩;have ha:zb (.mk 3 0 jF []):=(xM _).2 ⟨⟨hz,ax⟩,by simp[Ex.args]⟩;have hn:zb (.mk 22 0 em [.mk 3 0 jF []]):=(xM _).2 ⟨⟨hz,ax⟩,by simpa[Ex.args]using ha⟩;exact(H8 _).2 ⟨hk,hn,by simp[St.body],by simp[St.els]⟩
 intro t ht v hv;simp only[jx]at ht;subst ht;simp only[B7,iq,qi0,or_false]at hv;rcases hv with rfl|rfl<;>exact⟨⟨ax,ax⟩,ax⟩
theorem NL:q8 uY:=by intro q hq;simp only[uY,iq,qi0,or_false]at hq;rcases hq with rfl|rfl<;>exact⟨⟨ax,ax⟩,ax⟩
theorem Xd:yP pw [CT] jP [⟨1,[⟨jF,vI 1⟩]⟩,⟨2,[⟨oJ,vI 2⟩]⟩] [B7] []=([⟨1,[⟨jF,vI 1⟩]⟩,⟨2,[⟨oJ,vI 1⟩]⟩],[Ji]):=by rw[<-Dh,qqu QE NL HP KK,Ts,Tb]
variable {tT:TypeId} {tx:Nat×Nat} {g:Nat}
def qqg(h:mz)(hg:h[g]?=some (fZ tT tx)):ACalls prog 12 [] h λr Y=>r=.ret (Bo true)/\Y=h:=by
 have hl:=qoi jP uY;have hv:=LW jP (cT jP uY);rw[Ao HP KK,Dh]at hv;rw[Dh]at hl;have rU:g<h.length:=(gn.1 hg).1;have pa:∀l:mz,(h++l)[g]?=some (fZ tT tx):=λl=>by rw[gu rU];exact hg
 have r1:=λH hH=>R6 (g:=g) (tT:=tT) (tx:=tx) (H:=H) (nb:=[CT]) (p:=jP) (l:=cT jP uY) (A:=[B7]) (choices:=[]) hH QE (O0 NL) Z (by rw[Dh];simp);simp only[Dh,Xd]at r1;refine s8 func12 ntmps12 λE B hh Q hb nl qb=>?_;refine M ?_;refine nc hl (M ?_);refine pz hv Z (M ?_);refine se (r1 _ (pa _)) ?_;rintro r Y ⟨rfl,he⟩;rw[he];refine M ?_;refine pf 53 ?_;simp-dsimp[go_sem,B,jF,oJ,vI,WV,Eff.c,em];exact Qfi
end
section
variable {tT:TypeId} {tx:Nat×Nat} {g:Nat}
theorem qkh(l:List Shard):ta yF l l=true:=(EL (by intro a b;obtain⟨n,x⟩:=a;obtain⟨m,y⟩:=b;unfold yF;simp only[gy,jm,EL PP,Shard.mk.injEq])).2 rfl
end
section
variable {tT:TypeId} {tx:Nat×Nat} {g:Nat}
def VG(l:List Eff):APure prog 18 [.slice (l.map Eff.c),.slice (l.map Eff.c)] (Bo true):=by
 have:=WN l l
 rwa [Dg (f:=xK) qsg]at this
def Xn(l:List Shard):APure prog 13 [.slice (l.map Shard.c),.slice (l.map Shard.c)] (Bo true):=by grind[qkh,TN]
end
section
variable {tT:TypeId} {tx:Nat×Nat} {g:Nat}
def Yx(nb:List Proc)(p:Plc)(l:List Shard)(A:List Txn)(choices:List Int)(h:mz)(hg:h[g]?=some (fZ tT tx))(hB:BatchIn pw nb A)(G:∀x∈l,q8 x.prs)(hT:A.length<=1048576)(B:oL l<=1048576) :
  ACalls prog 5 [.slice (nb.map Proc.c),.agg p.c,.slice (l.map Shard.c),.slice (A.map Txn.c),.slice (choices.map qe)] h λr Y=>r=.ret (Bo true)/\Y=h:=by
 have rU:g<h.length:=(gn.1 hg).1;have pa:∀l:mz,(h++l)[g]?=some (fZ tT tx):=λl=>by rw[gu rU];exact hg
 have oy:=qma l;have hP:∀x∈l,x.prs.length<=3000000000:=λx hx=>by have:=NY l x hx;unfold oL at B;omega
 have r1:=λH hH=>R6 (g:=g) (tT:=tT) (tx:=tx) (H:=H) (nb:=nb) (p:=p) (l:=l) (A:=A) (choices:=choices) hH hB G hT hP;have r2:=qlu nb p l A hB (WM G) J W;rw[<-LK (choices:=choices) hB G]at r2;obtain⟨mw,hA⟩:=Qaj (yP pw nb p l A choices)
 simp only[hA]at r1 r2;refine s8 func5 ntmps5 λE B hh Q hb nl qb=>?_;simp-dsimp[go_sem,B,Plc.c];refine se (r1 _ (pa _)) ?_;rintro r Y ⟨rfl,he⟩;rw[he];simp-dsimp[go_sem,B,Plc.c];refine nc r2 (M ?_);refine nc (Xn mw.1) (M ?_);refine pz (VG mw.2) Z (M ?_);refine Q0 (λ_=>qqg _ (pa _)) Z ?_ (λh=>h);exact Qfc
end
section
variable {H:Type} {enc:TypeId×Value->H} {w:World}
theorem Sc{d:DataW H}{l:List (DataW H)}(h:d∈l):Rows.uptoBulk d<=Rows.uptoBulkAll l:=by
 induction l with
 |nil=>cases h
 |cons x r ih =>
  simp only[Rows.uptoBulkAll];grind
theorem qoa(d:DataW H):1<=Rows.uptoBulk d:=by
 cases d with
 |lit l=>cases l<;>simp[Rows.uptoBulk]
 |nil=>simp[Rows.uptoBulk]
 |ptr d=>simp[Rows.uptoBulk]
 |slice vL spare=>simp[Rows.uptoBulk]
 |agg parts=>simp[Rows.uptoBulk]
 |iface t d=>simp[Rows.uptoBulk]
 |map entries=>simp[Rows.uptoBulk]
 |held h=>simp[Rows.uptoBulk]
theorem qlg(l:List (DataW H)):l.length<=Rows.uptoBulkAll l:=by
 induction l with
 |nil=>simp[Rows.uptoBulkAll]
 |cons x r ih=>have:=qoa x;simp only[Rows.uptoBulkAll,jp];omega
theorem mT:Bulk (H:=H) Rows.uptoBulk where
 str:=λs=>by simp[Rows.uptoBulk]
 len:=λe s=>by have:=qlg e;simp only[Rows.uptoBulk];omega
 sl:=λe s x hx=>by have:=Sc hx;simp only[Rows.uptoBulk];omega
 agg:=λps x hx=>by have:=Sc hx;simp only[Rows.uptoBulk];omega
abbrev UB:Nat:=1048576
variable (enc w) in
abbrev RD(n:Nat)(t:TypeId)(hu:List V->Prop):Prop:=Rd enc prog w Rows.uptoBulk UB n t hu
theorem HB:UB<=68719476736:=ax
def cU{α:Type}(c:α->List V)(iI:α->Prop)(xs:List V):Prop:=∃a,xs=c a/\iI a
def nT(s:na):Prop:=s.size<=UB
def gQ{α:Type}(iI:α->Prop)(l:List α):Prop:=l.length<=UB/\∀a∈l,iI a
def dX{α:Type}(c:α->List V)(iI:α->Prop)(xs:List V):Prop:=cU (λl:List α=>[.slice (l.map c)]) (gQ iI) xs
theorem xD{n:Nat}{t e:TypeId}(ht:prog.underlying t=some (.slice e)){sz:Nat}(p6:prog.cellsOf e=sz)(L:0<sz){α:Type}{c:α->List V}{iI:α->Prop}(hl:∀a,(c a).length=sz)(he:RD enc w n e (cU c iI)):RD enc w n t (dX c iI):=by refine(NC mT HB ht p6 L (by rintro _ ⟨a,rfl,_⟩;exact hl a) he).mono ?_;rintro _ ⟨S,rfl,oy,hq⟩;obtain⟨l,rfl,hg⟩:=JV hq;exact⟨l,rfl,by simpa using oy,hg⟩
theorem yM{α:Type}{c:α->List V}{iI:α->Prop}:∀xs,dX c iI xs->xs.length=1:=by rintro _ ⟨l,rfl,_⟩;rfl
theorem vE{n:Nat}:RD enc w n 3 (jL .i64):=Sg ax underlying3
theorem FB{n:Nat}:RD enc w n 2 (jL .i64):=Sg ax underlying2
theorem wY{n:Nat}:RD enc w n 9 (sJ UB):=Y7 mT HB underlying9
theorem qoz{n:Nat}:RD enc w n 4 Hg:=Xp underlying4
theorem HQ{hI:Int}(h:IntKind.i64.min<=hI/\hI<=IntKind.i64.max):i64 hI:=⟨h.1,h.2⟩
theorem R7:∀{n:Nat},RD enc w n 57 (cU AV.c r6)
 | 0=>Rd.zero
 |n+1=>by
  refine(uJ (Qs:=[jL .i64,jL .i64,sJ UB]) mT underlying57 ?_).mono ?_
  .simp only[oI];exact⟨Z,1,ah,vE,nJ,Z,1,ah,FB,nJ,Z,1,ah,wY,xP,br⟩
  rintro _ ⟨ps,cP,rfl⟩;obtain⟨_,_,rfl,⟨k,rfl,_⟩,yu⟩:=v8 cP;obtain⟨_,_,rfl,⟨hI,rfl,hz⟩,dP⟩:=v8 yu;obtain⟨_,_,rfl,⟨s,rfl,hs⟩,hp3⟩:=v8 dP;obtain rfl:=vG hp3;exact⟨⟨k,hI,s⟩,rfl,HQ hz,by show s.size<=_;unfold UB at hs;omega⟩
def gP(p:Pr):Prop:=p.key.size<=UB/\r6 p.v
theorem VC:∀{n:Nat},RD enc w n 59 (cU Pr.c gP)
 | 0=>Rd.zero
 |n+1=>by
  refine(uJ (Qs:=[sJ UB,cU AV.c r6]) mT underlying59 ?_).mono ?_
  .simp only[oI];exact⟨Z,1,ah,wY,xP,Z,3,ah,R7,by rintro _ ⟨v,rfl,_⟩;rfl,br⟩
  rintro _ ⟨ps,cP,rfl⟩;obtain⟨_,_,rfl,⟨k,rfl,hk⟩,yu⟩:=v8 cP;obtain⟨_,_,rfl,⟨v,rfl,hv⟩,dP⟩:=v8 yu;obtain rfl:=vG dP;exact⟨⟨k,v⟩,rfl,hk,hv⟩
theorem qm2{n:Nat}:RD enc w n 73 (dX AV.c r6):=xD underlying73 (sz:=3) ah ax (λ_=>rfl) R7
theorem Q5{n:Nat}:RD enc w n 74 (dX ny nT):=xD underlying74 (sz:=1) ah ax (λ_=>rfl) (wY.mono (by rintro _ ⟨s,rfl,hs⟩;exact⟨s,rfl,hs⟩))
theorem IA:∀(n:Nat),RD enc w n 64 (cU Ex.c zb)
 | 0=>Rd.zero
 |n+1=>by
  have hs:RD enc w n 62 (dX Ex.c zb):=xD underlying62 (sz:=4) ah ax (λe=>by rw[Ex.c_eq];rfl) (IA n);refine(uJ (Qs:=[jL .i64,jL .i64,sJ UB,dX Ex.c zb]) mT underlying64 ?_).mono ?_
  .simp only[oI];exact⟨Z,1,ah,vE,nJ,Z,1,ah,FB,nJ,Z,1,ah,wY,xP,Z,1,ah,hs,yM,br⟩
  rintro _ ⟨ps,cP,rfl⟩;obtain⟨_,_,rfl,⟨k,rfl,_⟩,yu⟩:=v8 cP;obtain⟨_,_,rfl,⟨hI,rfl,hz⟩,dP⟩:=v8 yu;obtain⟨_,_,rfl,⟨s,rfl,hs⟩,hp3⟩:=v8 dP;obtain⟨_,_,rfl,⟨l,rfl,hl⟩,hp4⟩:=v8 hp3;obtain rfl:=vG hp4;refine⟨.mk k hI s l,by rw[Ex.c_eq];rfl,(xM _).2 ⟨⟨HQ hz,by show s.size<=_;unfold UB at hs;omega⟩,hl.2⟩⟩
theorem OC:∀(n:Nat),RD enc w n 70 (cU St.c iX)
 | 0=>Rd.zero
 |n+1=>by
  have hs:RD enc w n 68 (dX St.c iX):=xD underlying68 (sz:=13) ah ax (λe=>by rw[St.c_eq];rfl) (OC n);refine(uJ (Qs:=[jL .i64,sJ UB,jL .i64,cU Ex.c zb,cU Ex.c zb,dX St.c iX,dX St.c iX]) mT underlying70 ?_).mono ?_
  .simp only[oI];exact⟨Z,1,ah,vE,nJ,Z,1,ah,wY,xP,Z,1,ah,vE,nJ,Z,4,ah,IA n,qij,Z,4,ah,IA n,qij,Z,1,ah,hs,yM,Z,1,ah,hs,yM,br⟩
  rintro _ ⟨ps,cP,rfl⟩;obtain⟨_,_,rfl,⟨k,rfl,_⟩,yu⟩:=v8 cP;obtain⟨_,_,rfl,⟨s,rfl,hs⟩,dP⟩:=v8 yu;obtain⟨_,_,rfl,⟨m,rfl,_⟩,hp3⟩:=v8 dP;obtain⟨_,_,rfl,⟨a,rfl,ha⟩,hp4⟩:=v8 hp3;obtain⟨_,_,rfl,⟨b,rfl,hb⟩,hp5⟩:=v8 hp4;obtain⟨_,_,rfl,⟨l,rfl,hl⟩,hp6⟩:=v8 hp5;obtain⟨_,_,rfl,⟨l',rfl,w6⟩,hp7⟩:=v8 hp6;obtain rfl:=vG hp7;refine⟨.mk k s m a b l l',?_,(H8 _).2 ⟨ha,hb,hl.2,w6.2⟩⟩;simp[St.c,St.cl_map]
theorem Yq{n:Nat}:RD enc w n 68 (dX St.c iX):=xD underlying68 (sz:=13) ah ax (λe=>by rw[St.c_eq];rfl) (OC n)
theorem Xt:∀{n:Nat},RD enc w n 66 (cU Param.c λp=>nT p.name)
 | 0=>Rd.zero
 |n+1=>by
  refine(uJ (Qs:=[sJ UB,jL .i64]) mT underlying66 ?_).mono ?_
  .simp only[oI];exact⟨Z,1,ah,wY,xP,Z,1,ah,vE,nJ,br⟩
  rintro _ ⟨ps,cP,rfl⟩;obtain⟨_,_,rfl,⟨s,rfl,hs⟩,yu⟩:=v8 cP;obtain⟨_,_,rfl,⟨k,rfl,_⟩,dP⟩:=v8 yu;obtain rfl:=vG dP;exact⟨⟨s,k⟩,rfl,hs⟩
theorem qo7{n:Nat}:RD enc w n 67 (dX Param.c λp=>nT p.name):=xD underlying67 (sz:=2) ah ax (λ_=>rfl) Xt
def JZ(p:Proc):Prop:=nT p.name/\gQ (λx:Param=>nT x.name) p.params/\gQ iX p.body
theorem qpy:∀{n:Nat},RD enc w n 72 (cU Proc.c JZ)
 | 0=>Rd.zero
 |n+1=>by
  refine(uJ (Qs:=[sJ UB,dX Param.c λp=>nT p.name,dX St.c iX]) mT underlying72 ?_).mono ?_
  .simp only[oI];exact⟨Z,1,ah,wY,xP,Z,1,ah,qo7,yM,Z,1,ah,Yq,yM,br⟩
  rintro _ ⟨ps,cP,rfl⟩;obtain⟨_,_,rfl,⟨s,rfl,hs⟩,yu⟩:=v8 cP;obtain⟨_,_,rfl,⟨l,rfl,hl⟩,dP⟩:=v8 yu;obtain⟨_,_,rfl,⟨b,rfl,hb⟩,hp3⟩:=v8 dP;obtain rfl:=vG hp3;exact⟨⟨s,l,b⟩,rfl,hs,hl,hb⟩
def Jv(f:Foot):Prop:=gQ nT f.reads/\gQ nT f.writes
theorem SS:∀{n:Nat},RD enc w n 76 (cU Foot.c Jv)
 | 0=>Rd.zero
 |n+1=>by
  refine(uJ (Qs:=[Hg,dX ny nT,dX ny nT]) mT underlying76 ?_).mono ?_
  .simp only[oI];exact⟨Z,1,ah,qoz,qql,Z,1,ah,Q5,yM,Z,1,ah,Q5,yM,br⟩
  rintro _ ⟨ps,cP,rfl⟩;obtain⟨_,_,rfl,⟨b,rfl⟩,yu⟩:=v8 cP;obtain⟨_,_,rfl,⟨l,rfl,hl⟩,dP⟩:=v8 yu;obtain⟨_,_,rfl,⟨l',rfl,w6⟩,hp3⟩:=v8 dP;obtain rfl:=vG hp3;exact⟨⟨b,l,l'⟩,rfl,hl,w6⟩
structure gEff(e:Eff):Prop where
 out:gQ r6 e.out
 reads:gQ nT e.reads
 puts:gQ nT e.puts
 writes:gQ gP e.writes
 miss:nT e.miss
end
section
variable {H:Type} {enc:TypeId×Value->H} {w:World}
structure gTxn(t:Txn):Prop where
 id:i64 t.id
 proc:nT t.proc
 args:gQ r6 t.args
 ft:Jv t.ft
 att:i64 t.att
def YC:∀{n:Nat},RD enc w n 78 (cU Txn.c gTxn)
 | 0=>Rd.zero
 |n+1=>by
  refine(uJ (Qs:=[jL .i64,sJ UB,dX AV.c r6,cU Foot.c Jv,jL .i64]) mT underlying78 ?_).mono ?_
  .simp only[oI];exact⟨Z,1,ah,FB,nJ,Z,1,ah,wY,xP,Z,1,ah,qm2,yM,Z,3,ah,SS,by rintro _ ⟨v,rfl,_⟩;rfl,Z,1,ah,vE,nJ,br⟩
  rintro _ ⟨ps,cP,rfl⟩;obtain⟨_,_,rfl,⟨k,rfl,hk⟩,yu⟩:=v8 cP;obtain⟨_,_,rfl,⟨s,rfl,hs⟩,dP⟩:=v8 yu;obtain⟨_,_,rfl,⟨l,rfl,hl⟩,hp3⟩:=v8 dP;obtain⟨_,_,rfl,⟨f,rfl,hf⟩,hp4⟩:=v8 hp3;obtain⟨_,_,rfl,⟨hI,rfl,hz⟩,hp5⟩:=v8 hp4;obtain rfl:=vG hp5;exact⟨⟨k,s,l,f,hI⟩,rfl,HQ hk,hs,hl,hf,HQ hz⟩
def qrx{n:Nat}:RD enc w n 33 (dX Txn.c gTxn):=xD underlying33 (sz:=7) ah ax (λ_=>rfl) YC
def Wi{n:Nat}:RD enc w n 32 (dX Proc.c JZ):=xD underlying32 (sz:=3) ah ax (λ_=>rfl) qpy
def Zq{nb:List Proc}{l:List Txn}(hp:gQ JZ nb)(hl:gQ gTxn l):BatchIn pw nb l:=⟨Sa,λp h=>(hp.2 p h).2.2.2,λt h=>(hl.2 t h).args.2⟩
def qne{s:List Pr}(h:gQ gP s):q8 s:=λq hq=>(h.2 q hq).2
end
end Go.Proofs.YtolejdhnnchfpaaGreatDoor
namespace Go.Proofs.YtolejdhnnchfpaaGreatDoor
open Go Go.Abs Go.Cw Go.ChangeShapes Go.WideShapes Go.ChangeAt Go.RowKit Go.Proofs.Tryz
theorem EM:laidOutB prog=true:=ah
theorem Ur:ownKnob prog.godebug=none:=ah
abbrev GI:List (String×DataW Unit):=[("math/bits.deBruijn32tab",Rows.laid_math_bits_deBruijn32tab),("math/bits.deBruijn64tab",Rows.laid_math_bits_deBruijn64tab),("internal/strconv.uint64pow10",Rows.laid_internal_strconv_uint64pow10)]
abbrev Aq:Nat:=1
theorem qp7{ae:World}(h:laidMetH prog GI ae):Lib.TabIs prog ae "internal/strconv.uint64pow10" .u64 Lib.pow10Tab :=
 Lib.tabIs_of_head (rest:=[]) (g:=Aq) (n:=20) ah ah underlying380 underlying185 ah ah (laidMet.tail (laidMet.tail (show laidMet prog GI ae from h)))
theorem Ve{ae:World}(h:laidMetH prog GI ae):∃T x,ae.heap[Aq]?=some (.cells E8 T x):=by
 have O:=qp7 h;unfold Lib.TabIs World.var? at O
 rw[show prog.globalNamed "internal/strconv.uint64pow10" = some Aq by kernel_rfl]at O
 simp only[lw]at O;split at O
 .rename_i cs T x hx;cases O;exact⟨T,x,hx⟩
 cases O
theorem YB:∀(j:Nat) (v:Value),E8[j]?=some v->∃n,v=.int .u64 n:=by intro j v hv;unfold E8 at hv;have:(Lib.pow10Tab.map λhI=>Value.int .u64 hI)[j]?=some v:=qhn;rw[ja,iy]at this;obtain⟨hI,_,rfl⟩:=this;exact⟨hI,rfl⟩
def Kg(zs:List Value):Obj->Obj
 | .cells _ t fr=>.cells zs.toArray t fr
 |o=>o
def KD(d:DataW Unit):List Value:=match d with
 | .agg ps=>ps.map λ| .lit (.int k n)=>.int k n|_=>undef
 |_=>[]
noncomputable def IE(os:Os):World :=
 { World.holding prog os ⟨#[],#[],[]⟩with heap:=(((World.holding prog os ⟨#[],#[],[]⟩).heap.modify Aq (Kg (KD Rows.laid_internal_strconv_uint64pow10))).modify 2 (Kg (KD Rows.laid_math_bits_deBruijn32tab))).modify 3 (Kg (KD Rows.laid_math_bits_deBruijn64tab)) }
section
variable {H:Type} {enc:TypeId×Value->H} {ae:World} {base:Nat}
section
variable{t e:TypeId}{v:Value}
theorem TZ{fs:Array Field}(ht:prog.underlying t=some (.struct fs))(h:Value.okWide prog ae .any base t v):∃cs,v=.agg cs:=by unfold Value.okWide at h;rw[ht]at h;obtain⟨cs,rfl,_⟩:=h;exact⟨cs,rfl⟩
theorem Oc(ht:prog.underlying t=some (.slice e))(h:Value.okWide prog ae .any base t v):v.cells = #[v]:=by
 unfold Value.okWide at h;rw[ht]at h;simp only at h;unfold Cell.okWide at h;rw[ht]at h;cases v<;>first|rfl|skip
 unfold Cell.ok at h;rw[ht]at h;exact h.elim
theorem ZL{fs:Array Field}(ht:prog.underlying t=some (.struct fs)){d:DataW H}{ps:List MemPlace}(hv:Value.okWide prog ae .any base t v)(h:DataW.Trod enc prog ae 0 (λ_=>true) true t v d ps)
  {α:Type} {c:α->List V} {iI:α->Prop} (G:∀n,RD enc ae n t (cU c iI)) (hb:Rows.uptoBulk d<=UB):∃a,Rel (sX ae Aq) (.agg (c a)) v/\iI a:=by
 obtain⟨cs,rfl⟩:=TZ ht hv;obtain⟨qm,hf⟩:=h;obtain⟨_,hd,a,rfl,hg⟩:=G qm qm _ _ _ (gj _) hf hb;exact⟨a,Ye hd,hg⟩
theorem K3(ht:prog.underlying t=some (.slice e)){d:DataW H}{ps:List MemPlace}(hv:Value.okWide prog ae .any base t v)(h:DataW.Trod enc prog ae 0 (λ_=>true) true t v d ps)
  {α:Type} {c:α->List V} {iI:α->Prop} (G:∀n,RD enc ae n t (dX c iI)) (hb:Rows.uptoBulk d<=UB):∃l:List α,Rel (sX ae Aq) (.slice (l.map c)) v/\gQ iI l:=by
 obtain⟨qm,hf⟩:=h;rw[Oc ht hv]at hf;obtain⟨_,hd,l,rfl,hg⟩:=G qm qm _ _ _ (gj _) hf hb;exact⟨l,Qe hd,hg⟩
end
end
theorem ZA:laidOutB Tryz.pinned.checked.prog=true:=ah
theorem qsz:mapsRowed Tryz.pinned.checked.prog=true:=ah
theorem qor:Tryz.pinned.checked.prog.stopsHeard=true:=ah
theorem Y8:Tryz.pinned.checked.prog.mayEnter=true:=ah
end Go.Proofs.YtolejdhnnchfpaaGreatDoor
namespace Go.Proofs.YtolejdhnnchfpaaGreatDoor
open Go Go.Abs Go.Cw Go.Proofs.Tryz
section
variable {H:Type} {enc:TypeId×Value->H} {w:World}
def UJ{n:Nat}:RD enc w n 34 (dX qe i64):=xD underlying34 (sz:=1) ah ax (λ_=>rfl) (vE.mono (by rintro _ ⟨hI,rfl,O,U⟩;exact⟨hI,rfl,O,U⟩))
theorem P9:∀l:List (DataW H),(l.map Rows.uptoBulk).sum=Rows.uptoBulkAll l
 | []=>rfl
 |x::r=>by rw[jd,List.sum_cons,P9 r,Rows.uptoBulkAll]
def qk5(e s:List (DataW H)):(e.map Rows.uptoBulk).sum<=Rows.uptoBulk (.slice e s):=by rw[P9];simp only[Rows.uptoBulk];omega
def SO:∀{n:Nat},RD enc w n 61 (cU Part.c λ_=>True)
 | 0=>Rd.zero
 |n+1=>by
  refine(uJ (Qs:=[jL .i64,sJ UB,jL .i64,jL .i64,sJ UB]) mT underlying61 ?_).mono ?_
  .simp only[oI];exact⟨Z,1,ah,vE,nJ,Z,1,ah,wY,xP,Z,1,ah,vE,nJ,Z,1,ah,vE,nJ,Z,1,ah,wY,xP,br⟩
  rintro _ ⟨ps,cP,rfl⟩;obtain⟨_,_,rfl,⟨a,rfl,_⟩,yu⟩:=v8 cP;obtain⟨_,_,rfl,⟨b,rfl,_⟩,dP⟩:=v8 yu;obtain⟨_,_,rfl,⟨c,rfl,_⟩,hp3⟩:=v8 dP;obtain⟨_,_,rfl,⟨d,rfl,_⟩,hp4⟩:=v8 hp3;obtain⟨_,_,rfl,⟨e,rfl,_⟩,hp5⟩:=v8 hp4;obtain rfl:=vG hp5;exact⟨⟨a,b,c,d,e⟩,rfl,trivial⟩
def qky{n:Nat}:RD enc w n 22 (dX Part.c λ_=>True):=xD underlying22 (sz:=5) ah ax (λ_=>rfl) SO
def Vc:∀{n:Nat},RD enc w n 24 (cU Plc.c λ_=>True)
 | 0=>Rd.zero
 |n+1=>by
  refine(uJ (Qs:=[jL .i64,dX Part.c λ_=>True]) mT underlying24 ?_).mono ?_
  .simp only[oI];exact⟨Z,1,ah,FB,nJ,Z,1,ah,qky,yM,br⟩
  rintro _ ⟨ps,cP,rfl⟩;obtain⟨_,_,rfl,⟨a,rfl,_⟩,yu⟩:=v8 cP;obtain⟨_,_,rfl,⟨l,rfl,_⟩,dP⟩:=v8 yu;obtain rfl:=vG dP;exact⟨⟨a,l⟩,rfl,trivial⟩
def J0(k:Nat)(x:Shard):Prop:=gQ gP x.prs/\x.prs.length<=k
def SW{k:Nat}(hk:k<=UB):∀{n:Nat},Rd enc prog w Rows.uptoBulk k n 53 (cU Shard.c (J0 k))
 | 0=>Rd.zero
 |n+1=>by
  have hP:Rd enc prog w Rows.uptoBulk k n 28 (cU (λl:List Pr=>[.slice (l.map Pr.c)]) λl=>gQ gP l/\l.length<=k):=by refine(NC mT (jh hk HB) underlying28 (sz:=4) ah ax (by rintro _ ⟨a,rfl,_⟩;rfl) (λqm cs d ps hf ht hb=>VC (n:=n) qm cs d ps hf ht (jh hb hk))).mono ?_;rintro _ ⟨S,rfl,oy,hq⟩;obtain⟨l,rfl,hg⟩:=JV hq;rw[ka]at oy;exact⟨l,rfl,⟨jh oy hk,hg⟩,oy⟩
  refine(uJ (Qs:=[jL .i64,cU (λl:List Pr=>[.slice (l.map Pr.c)]) λl=>gQ gP l/\l.length<=k]) mT underlying53 ?_).mono ?_
  .simp only[oI];exact⟨Z,1,ah,(λqm cs d ps hf ht hb=>vE (n:=n) qm cs d ps hf ht (jh hb hk)),nJ,Z,1,ah,hP,(by rintro _ ⟨a,rfl,_⟩;rfl),br⟩
  rintro _ ⟨ps,cP,rfl⟩;obtain⟨_,_,rfl,⟨a,rfl,_⟩,yu⟩:=v8 cP;obtain⟨_,_,rfl,⟨l,rfl,hl⟩,dP⟩:=v8 yu;obtain rfl:=vG dP;exact⟨⟨a,l⟩,rfl,hl⟩
def Rx:∀(S:List (List V)) (ae:List Nat),ae.length=S.length->(∀(i:Nat) (r:List V) (k:Nat),S[i]?=some r->ae[i]?=some k->cU Shard.c (J0 k) r)->∃l:List Shard,S=l.map Shard.c/\(∀x∈l,gQ gP x.prs)/\oL l<=ae.sum
 | [],ae,_,_=>⟨[],rfl,Z,il _⟩
 |r::S,[],h,_=>by simp at h
 |r::S,k::ae,h,hq=>by
  obtain⟨x,rfl,hx⟩:=hq 0 r k rfl rfl;obtain⟨l,rfl,O,U⟩:=Rx S ae W λi r k G hk=>hq (i+1) r k W W;refine⟨x::l,rfl,λy hy=>?_,?_⟩
  .rcases iq.1 hy with rfl|hy
   .exact hx.1
   grind
  have:=hx.2;unfold oL at U|-;simp only[jd,List.sum_cons];omega
structure gShs(l:List Shard):Prop where
 len:l.length<=UB
 prs:∀x∈l,gQ gP x.prs
 sum:oL l<=UB
def US{n:Nat}:RD enc w n 25 (cU (λl:List Shard=>[.slice (l.map Shard.c)]) gShs):=by refine(qnz mT qk5 HB underlying25 (sz:=2) ah ax (hu:=λk=>cU Shard.c (J0 k)) (by rintro k _ ⟨a,rfl,_⟩;rfl) (λk hk=>SW hk)).mono ?_;rintro _ ⟨S,ae,rfl,O,U,h3,h4⟩;obtain⟨l,rfl,h5,h6⟩:=Rx S ae O h4;exact⟨l,rfl,by simpa using U,h5,jh h6 h3⟩
def ZR{base:Nat}{v:Value}{d:DataW H}{ps:List MemPlace}(hv:Value.okWide prog w .any base 25 v)(h:DataW.Trod enc prog w 0 (λ_=>true) true 25 v d ps)(hb:Rows.uptoBulk d<=UB):∃l:List Shard,Rel (sX w Aq) (.slice (l.map Shard.c)) v/\gShs l:=by obtain⟨qm,hf⟩:=h;rw[Oc underlying25 hv]at hf;obtain⟨_,hd,l,rfl,hg⟩:=US (n:=qm) qm _ _ _ (gj _) hf hb;exact⟨l,Qe hd,hg⟩
def TV{l:List Shard}(h:gShs l):∀x∈l,q8 x.prs:=λx hx=>qne (h.prs x hx)
end
