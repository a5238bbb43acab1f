/- Part 35 of a proof. -/
import Derived.Test.YtolejdhnnchfpaaGreatDoorQ34
set_option linter.all false
set_option maxRecDepth 8000
set_option maxHeartbeats 4000000
namespace Go.Proofs.YtolejdhnnchfpaaGreatDoor
open Go Go.Abs Go.Cw Go.Proofs.Tryz
abbrev lR(l:List ig):List AV:=[.slice (l.map ja)]
theorem xyp(p:Plc)(ls:List (List ig))(hv:jy p=true)(hlb:ls.length<=68719476736)(ki:∀x∈ls,x.length<=68719476736)(l:Nat)(HF:Nat->g9)(n1 a b:Nat)(xs:List Int)(hxs:xs=ls.flatten.map (ly p))(Y:YJ prog l HF xs n1)
  (ha:∀j,(HF j)[a]?=some (.cells [.slice (ls.map lR)])) (hp:∀j,(HF j)[b]?=some (.cells [I p.ver,.slice (p.parts.map Part.c)])) :
  ACalls prog 126 [.fn (.yield l) [] [],.ptr a 0,.ptr b 0] (HF 0) λr h'=>r=.ret (.tuple [])/\h'=HF xs.length:=by
 refine xc4 func126 rfl ae (by simp[ntmps126]) ?_;intro E hN hh hu hb iq ju;rw[ntmps126]at hN;have han:a<n1:=by rw[<-Y.len 0];exact(cm.1 (ha 0)).1
 have hbn:b<n1:=by rw[<-Y.len 0];exact(cm.1 (hp 0)).1
 refine qct _ _ _ _ ?_;simp-dsimp[go_sem,hN,ha,hp];obtain⟨c,hc0⟩:∃c:Nat->Nat,c=λn=>((ls.take n).flatten).length:=⟨_,rfl⟩
 have md:∀n (hn:n<ls.length),c (n+1)=c n+ls[n].length:=λn hn=>by grind[ec,List.flatten_append,c7,List.flatten_cons,List.flatten_nil]
 have hce:c ls.length=xs.length:=af;have hxg:∀n (hn:n<ls.length) m (hm:m<ls[n].length),∃hh:c n+m<xs.length,xs[c n+m]=ly p ls[n][m]:=λn hn m hm=>by
  have e1:ls.flatten=(ls.take n).flatten++(ls[n]++(ls.drop (n+1)).flatten):=by grind[gn,qi5,List.flatten_append,List.flatten_cons]
  have e2:xs=((ls.take n).flatten).map (ly p)++(ls[n].map (ly p)++((ls.drop (n+1)).flatten).map (ly p)):=af;have e3:c n=(((ls.take n).flatten).map (ly p)).length:=af;have e4:xs[c n+m]?=some (ly p ls[n][m]):=by simp_all[cx,Nat.add_sub_cancel_left,co,di,cu]
  exact cm.1 e4
 have hYl:=Y.len;have hYu:=Y.und;refine xjr (ι:=Nat) (λn=>n<=ls.length) (λn=>([],⟨[(0,.fn (.yield l) [] []),(1,.ptr a 0),(2,.ptr b 0),(8,.slice (ls.map lR)),(9,I ls.length),(10,I n)],HF (c n)⟩)) (λn=>ls.length - n) 0 (dq _) rfl ?_ ?_
 .rw[show c 0=0 by rw[hc0];rfl];exact Wk.mk ai ac aa qgg
 intro n hn;have hw:=jj hn hlb;refine qct _ _ _ _ ?_;simp-dsimp[go_sem,hN,ha,hp];refine ii ?_ ?_<;>intro hc<;>simp at hc
 rotate_left
 .have th:n=ls.length:=aa;subst th;rw[hce];simp-dsimp[go_sem,hN];refine⟨[],rfl,qjb,ac,?_⟩;simp-dsimp[go_sem,hN,qee];exact⟨_,.refl _,HF xs.length,rfl,hwk.refl _,by rw[Y.len,Y.len];exact cn _,qgr,rfl,rfl⟩
 have jm:=ki _ (dk hc);have hxn:=hxg n hc;simp-dsimp[go_sem,hN,hc];refine xjr (ι:=Nat) (λm=>m<=ls[n].length) (λm=>([],⟨[(0,.fn (.yield l) [] []),(1,.ptr a 0),(2,.ptr b 0),(8,.slice (ls.map lR)),(9,I ls.length),(10,I n),(14,.slice (ls[n].map ja)),(15,I ls[n].length),(16,I m)],HF (c n+m)⟩)) (λm=>ls[n].length - m) 0 (dq _) rfl ?_ ?_
 .exact Wk.mk af ac af qgg
 intro m hm;have oh:=jj hm jm;refine qct _ _ _ _ ?_;simp-dsimp[go_sem,hN,ha,hp];refine ii ?_ ?_<;>intro hd<;>simp at hd
 .obtain⟨il,hx⟩:=hxn m hd;have hy:=Y.y (c n+m) il [];simp only[ej]at hy;rw[hx]at hy;simp-dsimp[go_sem,hN,hd,hp];refine iv (xfg p _ hv) ?_;simp-dsimp[go_sem,hN];refine hy.mono ?_;rintro r h' ⟨rfl,rfl⟩;simp-dsimp[go_sem,hN,oh];exact⟨m+1,aa,aa,Wk.mk af (by simp[Nat.add_assoc]) af qgg⟩
 .have hmm:m=ls[n].length:=aa;subst hmm;simp-dsimp[go_sem,hN,hw];refine⟨n+1,aa,aa,?_⟩;rw[md n hc];exact Wk.mk af ac af qgg
theorem xwh:qm2 Value.nilFunc=.val .nilFunc:=rfl
theorem xn3(p:Plc)(ls:List (List ig))(h:g9):ACalls prog 86 [.agg p.c,.slice (ls.map lR)] h λr h'=>r=.ret (.fn (.func 126) [] [.ptr (h.length+1) 0,.ptr h.length 0])/\h'=h++[.cells [I p.ver,.slice (p.parts.map Part.c)],.cells [.slice (ls.map lR)]]:=by
 refine re func86 rfl ae ac ?_;intro E hN hh hu hb iq ju;rw[ntmps86]at hN;refine jo _ _ _ ?_;simp-dsimp[go_sem,hN,xwh,Plc.c];exact⟨_,.refl _,_,qez,hwk.refl _,ac,qif,rfl,rfl⟩
theorem jfi(gf:FuncId)(a b:Nat)(xs:List Int)(h:g9)(hxl:xs.length<68719476736)
  (hit:∀(l:Nat) (HF:Nat->g9) (n1:Nat),YJ prog l HF xs n1->(∀j i,i<h.length->(HF j)[i]?=h[i]?)->ACalls prog gf [.fn (.yield l) [] [],.ptr a 0,.ptr b 0] (HF 0) λr h'=>r=.ret (.tuple [])/\h'=HF xs.length) :
  ACalls prog 85 [.fn (.func gf) [] [.ptr a 0,.ptr b 0]] h λr h'=>r=.ret (.slice ((qmi xs).map ka))/\h'=h:=by
 refine re func85 rfl ae ac ?_;intro E hN hh hu hb iq ju;rw[ntmps85]at hN;refine jo _ _ _ ?_;simp-dsimp[go_sem,hN];refine iy (jlb gf a b xs _ hxl hit) ?_;rintro r h' ⟨rfl,rfl⟩;simp-dsimp[go_sem,hN];refine iy (xig (n:=xs.length) (l:=qs8 xs) (h:=h++[.uarr 3 1 ((qs8 xs).map ka)]) (i:=h.length) ac ac) ?_;rintro r h' ⟨rfl,rfl⟩;simp-dsimp[go_sem,hN];exact⟨_,.refl _,h,by simp[AV.under],hwk.app0 _,ac,hu,rfl,rfl⟩
theorem xm0(p:Plc)(ls:List (List ig))(h:g9)(hv:jy p=true)(hlb:ls.length<=68719476736)(ki:∀x∈ls,x.length<=68719476736)(hfl:ls.flatten.length<68719476736) :
  ACalls prog 85 [.fn (.func 126) [] [.ptr (h.length+1) 0,.ptr h.length 0]] (h++[.cells [I p.ver,.slice (p.parts.map Part.c)],.cells [.slice (ls.map lR)]]) λr h'=>r=.ret (.slice ((qmi (ls.flatten.map (ly p))).map ka))/\h'=h++[.cells [I p.ver,.slice (p.parts.map Part.c)],.cells [.slice (ls.map lR)]] :=
 jfi _ _ _ _ _ af λl HF n1 Y hH=>xyp p ls hv hlb ki l HF n1 _ _ _ rfl Y (λj=>by rw[hH j _ ac];simp) (λj=>by rw[hH j _ ac];simp)
theorem xle{f:Foot}(h:fOk f=true):f.all=false->f.reads.length<=64/\f.writes.length<=64:=λha=>by
 unfold fOk qa at h;rw[ha,if_neg ac]at h;simp only[cw,decide_eq_true_eq]at h;omega
theorem xf0(p:Plc)(f:Foot):APure prog 54 [.agg p.c,.agg f.c] (.slice ((l9 p f).map ka)):=by
 obtain⟨R,hR⟩:∃R,l9 p f=R:=⟨_,rfl⟩
 rw[hR];unfold l9 at hR;refine lz func54 rfl ae ac rfl ?_;intro E h hN hh hu hb;rw[ntmps54]at hN;refine jo _ _ _ ?_;simp-dsimp[go_sem,hN,Plc.c,Foot.c];refine iv (xe7 p f) ?_;simp-dsimp[go_sem,hN];refine ii ?_ ?_<;>intro h0<;>simp at h0
 .rw[if_pos h0]at hR;subst hR;simp-dsimp[go_sem,hN]
 rw[if_neg cj]at hR;have hv:=(qnm h0).1;have hl:=xle (qnm h0).2;simp-dsimp[go_sem,hN,Foot.c];refine ii (λh1=>?_) (λh1=>?_)
 .rw[if_pos h1]at hR;subst hR;simp-dsimp[go_sem,hN];refine iv (qzj p) ?_;simp-dsimp[go_sem,hN]
 rw[if_neg qgl]at hR;subst hR;simp-dsimp[go_sem,hN];refine iy (xn3 p [f.reads,f.writes] _) ?_;rintro r h' ⟨rfl,rfl⟩;simp-dsimp[go_sem,hN];have hl:=hl aa;have hd:=xm0 p [f.reads,f.writes] (h++[.cells [I p.ver,.slice (p.parts.map Part.c)],.cells [Bo f.all,.slice (f.reads.map ja),.slice (f.writes.map ja)]]) hv ac az az;simp only[dn,qix,ff,c7,dy,ed,cz,Nat.reduceAdd]at hd;refine iy hd ?_;rintro r h' ⟨rfl,rfl⟩;simp-dsimp[go_sem,hN]
theorem je5(p:Plc)(f:Foot):APure prog 87 [.agg p.c,.agg f.c] (.slice ((qr7 p f).map ka)):=by
 obtain⟨R,hR⟩:∃R,qr7 p f=R:=⟨_,rfl⟩
 rw[hR];unfold qr7 at hR;refine lz func87 rfl ae ac rfl ?_;intro E h hN hh hu hb;rw[ntmps87]at hN;refine jo _ _ _ ?_;simp-dsimp[go_sem,hN,Plc.c,Foot.c];refine iv (xe7 p f) ?_;simp-dsimp[go_sem,hN];refine ii ?_ ?_<;>intro h0<;>simp at h0
 .rw[if_pos h0]at hR;subst hR;simp-dsimp[go_sem,hN]
 rw[if_neg cj]at hR;have hv:=(qnm h0).1;have hl:=xle (qnm h0).2;simp-dsimp[go_sem,hN,Foot.c];refine ii (λh1=>?_) (λh1=>?_)
 .rw[if_pos h1]at hR;subst hR;simp-dsimp[go_sem,hN];refine iv (qzj p) ?_;simp-dsimp[go_sem,hN]
 rw[if_neg qgl]at hR;subst hR;simp-dsimp[go_sem,hN];refine iy (xn3 p [f.writes] _) ?_;rintro r h' ⟨rfl,rfl⟩;simp-dsimp[go_sem,hN];have hl:=hl aa;have hd:=xm0 p [f.writes] (h++[.cells [I p.ver,.slice (p.parts.map Part.c)],.cells [Bo f.all,.slice (f.reads.map ja),.slice (f.writes.map ja)]]) hv ac az az;simp only[dn,qix,ff,c7,dy,ed,cz,Nat.reduceAdd]at hd;refine iy hd ?_;rintro r h' ⟨rfl,rfl⟩;simp-dsimp[go_sem,hN]
theorem xm5(p:Plc)(f:Foot):APure prog 55 [.agg p.c,.agg f.c] (.slice ((ma p f).map ka)):=by
 obtain⟨R,hR⟩:∃R,ma p f=R:=⟨_,rfl⟩
 rw[hR];unfold ma at hR;refine lz func55 rfl ae ac rfl ?_;intro E h hN hh hu hb;rw[ntmps55]at hN;refine jo _ _ _ ?_;simp-dsimp[go_sem,hN,Plc.c,Foot.c];refine iv (xe7 p f) ?_;simp-dsimp[go_sem,hN];refine ii ?_ ?_<;>intro h0<;>simp at h0
 .rw[if_pos h0]at hR;subst hR;simp-dsimp[go_sem,hN]
 rw[if_neg cj]at hR;have hl:=qdb (qnm h0).1;simp-dsimp[go_sem,hN,Plc.c,Foot.c];refine iv (je5 p f) ?_;simp-dsimp[go_sem,hN];refine ii ?_ ?_<;>intro h1<;>simp at h1
 .rw[if_pos h1]at hR;subst hR;simp-dsimp[go_sem,hN]
 rw[if_neg qgl]at hR;simp-dsimp[go_sem,hN,Plc.c,Foot.c];refine iv (xf0 p f) ?_;simp-dsimp[go_sem,hN];refine ii ?_ ?_<;>intro h2<;>simp at h2
 .rw[if_pos h2]at hR;subst hR;simp-dsimp[go_sem,hN];omega
 rw[if_neg (by simp[h2])]at hR;subst hR;obtain⟨ver,l⟩:=p;cases l with
 |nil=>simp at hl
 |cons x l =>
 simp-dsimp[go_sem,hN,Plc.c,xe5]
attribute [go_sem] Mail.c
theorem jhg(l:List Mail)(f:FuncId)(caps:List AV)(q:Mail->Bool)(h:g9)(hcn:ko h caps=caps)(hp:∀x∈l,ACalls prog f ([.agg x.c]++caps) h λr h'=>r=.ret (Bo (q x))/\h'=h) :
  ACalls prog 140 [.slice (l.map Mail.c),.fn (.func f) [] caps] h λr h'=>r=.ret (I (nv q l))/\h'=h:=by
 refine mh func140 ntmps140 rfl ae rfl λE hN hh hu hb iq ju=>?_;simp[go_sem]at hb;simp-dsimp[go_sem,hN];refine jz l.length (λn=>ph q n (l.drop n)=nv q l) (λn=>⟨[(0,.slice (l.map Mail.c)),(1,.fn (.func f) [] caps),(7,I l.length),(8,I n)],h⟩) qgd (Wk.mk ai ac qfx qet) ?_;intro n hn hI;have hw:=jj hn hb.1;simp-dsimp[go_sem,hN];refine ii ?_ ?_<;>intro hc<;>simp at hc
 .rw[jv hc,ph]at hI;simp-dsimp[go_sem,hN,hc,hcn];refine iy (hp l[n] (dk hc)) ?_;rintro r h' ⟨rfl,rfl⟩;simp-dsimp[go_sem,hN];refine ii ?_ ?_<;>intro hg<;>try simp at hg
  .simp-dsimp[go_sem,hN];rw[if_pos hg]at hI;rw[hI];exact⟨_,.refl _,h',ag,ag,ac,aq,rfl,rfl⟩
  .simp-dsimp[go_sem,hN,hw];exact⟨hc,br,Wk.mk ai ac qfx qet⟩
 .rw[cq aa,ph]at hI;simp-dsimp[go_sem,hN,<-hI];exact⟨_,.refl _,h,ag,ag,ac,aq,rfl,rfl⟩
theorem xkm(l:List Mail)(f:FuncId)(caps:List AV)(q:Mail->Bool)(h:g9)(hcn:ko h caps=caps)(hp:∀x∈l,ACalls prog f ([.agg x.c]++caps) h λr h'=>r=.ret (Bo (q x))/\h'=h) :
  ACalls prog 99 [.slice (l.map Mail.c),.fn (.func f) [] caps] h λr h'=>r=.ret (Bo (l.any q))/\h'=h:=by
 refine re func99 rfl ae ac ?_;intro E hN hh hu hb iq ju;rw[ntmps99]at hN;refine jo _ _ _ ?_;simp-dsimp[go_sem,hN];refine iy (jhg l f caps q h hcn hp) ?_;rintro r h' ⟨rfl,rfl⟩;obtain⟨B,hB⟩:∃B,l.any q=B:=⟨_,rfl⟩
 rw[hB];have hi:(0<=nv q l)=(B=true):=by grind[xjb]
 simp-dsimp[go_sem,hN,hi];exact⟨_,.refl _,h',ag,ag,ac,aq,rfl,rfl⟩
theorem jd0(l l':List ig):APure prog 170 [.slice (l.map ja),.slice (l'.map ja)] (Bo (mm zu l l')):=by
 refine kl func170 ntmps170 rfl ae rfl rfl λE h hN hh hu hb=>?_;simp-dsimp[go_sem,hN];refine iv (jc1 l l') ?_;simp-dsimp[go_sem,hN]
theorem jhm(l l':List Pr):APure prog 171 [.slice (l.map Pr.c),.slice (l'.map Pr.c)] (Bo (mm yd l l')):=by
 refine kl func171 ntmps171 rfl ae rfl rfl λE h hN hh hu hb=>?_;simp-dsimp[go_sem,hN];refine iv (jbt l l') ?_;simp-dsimp[go_sem,hN]
theorem jb7(a b:Mail):APure prog 142 [.agg a.c,.agg b.c] (Bo (eqM a b)):=by
 refine kl func142 ntmps142 rfl ae rfl rfl λE h hN hh hu hb=>?_;simp-dsimp[go_sem,hN];refine kq (jd0 a.keys b.keys) ac ?_;simp-dsimp[go_sem,hN];refine kq (jhm a.prs b.prs) ac ?_;simp-dsimp[go_sem,hN,eqM]
theorem xvq(x:Mail)(h:g9)(i j k:Nat)(t m n:Int)(hi:h[i]?=some (.cells [I t]))(hj:h[j]?=some (.cells [I m]))(hk:h[k]?=some (.cells [I n])) :
  ACalls prog 100 [.agg x.c,.ptr i 0,.ptr j 0,.ptr k 0] h λr h'=>r=.ret (Bo (decide (x.txn=t)&&decide (x.frm=m)&&decide (x.to=n)))/\h'=h:=by
 refine mh func100 ntmps100 rfl ae rfl λE hN hh hu hb iq ju=>?_;have ke:i<h.length:=(cm.1 hi).1;have ny:j<h.length:=(cm.1 hj).1;have kb:k<h.length:=(cm.1 hk).1;have a1:∀l,(h++l)[i]?=some (.cells [I t]):=λl=>by rw[co ke];exact hi
 have a2:∀l,(h++l)[j]?=some (.cells [I m]):=λl=>by rw[co ny];exact hj
 have a3:∀l,(h++l)[k]?=some (.cells [I n]):=λl=>by rw[co kb];exact hk
 simp-dsimp[go_sem,hN,a1,a2,a3,hu];exact⟨_,.refl _,h,ag,ag,ac,aq,rfl,rfl⟩
theorem xzh(x m:Mail)(h:g9)(i:Nat)(hi:h[i]?=some (.cells m.c)):ACalls prog 141 [.agg x.c,.ptr i 0] h λr h'=>r=.ret (Bo (eqM x m))/\h'=h:=by
 refine mh func141 ntmps141 rfl ae rfl λE hN hh hu hb iq ju=>?_;have ke:i<h.length:=(cm.1 hi).1;have a1:∀l,(h++l)[i]?=some (.cells m.c):=λl=>by rw[co ke];exact hi
 simp-dsimp[go_sem,hN,a1,hu];refine iv (jb7 x m) ?_;simp-dsimp[go_sem,hN];exact⟨_,.refl _,h,ag,ag,ac,aq,rfl,rfl⟩
theorem jke(x m:Mail)(h:g9)(i:Nat)(hi:h[i]?=some (.cells m.c)):ACalls prog 143 [.agg x.c,.ptr i 0] h λr h'=>r=.ret (Bo (decide (x.frm=m.frm)))/\h'=h:=by
 refine mh func143 ntmps143 rfl ae rfl λE hN hh hu hb iq ju=>?_;have ke:i<h.length:=(cm.1 hi).1;have a1:∀l,(h++l)[i]?=some (.cells m.c):=λl=>by rw[co ke];exact hi
 simp-dsimp[go_sem,hN,a1,hu];exact⟨_,.refl _,h,ag,ag,ac,aq,rfl,rfl⟩
theorem jbs(p:Plc)(x:Shard)(f:Foot):APure prog 138 [.agg p.c,.agg x.c,.agg f.c] (.slice ((qox p x.prs f).map Pr.c)):=by
 obtain⟨node,l⟩:=x;have nk:=xq8 p ⟨node,l⟩ f;have it:qox p l f=if (pf p f&&jl l)=true then l.filter λx=>f.all||l8 f.reads x.key else []:=rfl;simp only at nk;obtain⟨v,hv⟩:∃v,(pf p f&&jl l)=v:=⟨_,rfl⟩
 rw[hv]at nk it;simp only[it];refine kl func138 ntmps138 rfl ae rfl rfl λE h hN hh hu hb=>?_;simp[go_sem,Plc.c,Foot.c]at hb;simp-dsimp[go_sem,hN,Plc.c,Foot.c];refine iv nk ?_;cases v with
 |false=>simp-dsimp[go_sem,hN]
 |true =>
 simp-dsimp[go_sem,hN,Foot.c];obtain⟨q,hq⟩:∃q:Pr->Bool,q=λx=>f.all||l8 f.reads x.key:=⟨_,rfl⟩
 rw[<-hq];obtain⟨F,hF⟩:∃F:Nat->List Pr,F=λn=>(l.take n).filter q:=⟨_,rfl⟩
 have hF0:F 0=[]:=af;have w6:F l.length=l.filter q:=af;have s9:∀n (hn:n<l.length),F (n+1)=F n++(if q l[n]=true then [l[n]]else []):=λn hn=>by grind[xa4]
 have uq:∀n,(F n).length<=n:=λn=>by rw[hF];exact qzr _ _ _
 refine jz l.length (λ_=>True) (λn=>⟨[(3,.ptr h.length 0),(5,.ptr (h.length+2) 0),(7,.slice ((F n).map Pr.c)),(16,.slice (l.map Pr.c)),(17,I l.length),(18,I n)],h++[.cells [I p.ver,.slice (p.parts.map Part.c)],.cells [I node,.slice (l.map Pr.c)],.cells [Bo f.all,.slice (f.reads.map ja),.slice (f.writes.map ja)]]⟩) trivial ((quy E _).trans qes) ?_;intro n hn _;have hw:=jj hn hb.2.1.1;have yb:=uq n;have pz:=s9 n;simp-dsimp[go_sem,hN];refine ii ?_ ?_<;>intro hc<;>simp at hc
 .have pz:=pz hc;simp-dsimp[go_sem,hN,hc,Foot.c];refine kq (xey f.reads _) ac ?_;simp-dsimp[go_sem,hN];refine ii (λhd=>?_) (λhd=>?_)
  .rw[if_pos af]at pz;simp-dsimp[go_sem,hN];refine jt 8 mixed ae ae ?_;simp-dsimp[go_sem,hN,hw];refine⟨aa,hc,?_⟩;rw[pz];exact mj
  .rw[if_neg af,ej]at pz;simp-dsimp[go_sem,hN,hw];refine⟨hc,?_⟩;rw[pz];exact mj
 .have th:n=l.length:=aa;subst th;simp-dsimp[go_sem,hN];rw[w6]
  done
theorem jcc(p:Plc)(f:Foot)(t:Nat)(n:Int)(l:List Mail):APure prog 63 [.agg p.c,.agg f.c,I t,I n,.slice (l.map Mail.c)] (Bo (qr4 p f t n l)):=by
 have rh:=xt0 p f;obtain⟨R,hR⟩:∃R,qr4 p f t n l=R:=⟨_,rfl⟩
 rw[hR];unfold qr4 at hR;refine lz func63 rfl ae ac rfl ?_;intro E h hN hh hu hb;rw[ntmps63]at hN;refine jo _ _ _ ?_;simp-dsimp[go_sem,hN,Plc.c,Foot.c];refine iv (qv0 p) ?_;simp-dsimp[go_sem,hN];refine kq (qzd f) ac ?_;simp-dsimp[go_sem,hN];refine ii ?_ ?_<;>intro h0<;>simp at h0
 .have:pf p f=false:=by unfold pf fOk;rcases h0 with h0|h0<;>simp[h0]
  rw[this,fl]at hR;subst hR;simp-dsimp[go_sem,hN]
 have h0r:pf p f=true:=by simp_all[pf,fOk]
 rw[h0r,dh]at hR;simp-dsimp[go_sem,hN,Plc.c,Foot.c];refine iv (xf0 p f) ?_;simp-dsimp[go_sem,hN];obtain⟨q,hq⟩:∃q:Int->Bool,q=λm=>l.any λx=>decide (x.txn=(t:Int))&&decide (x.frm=m)&&decide (x.to=n):=⟨_,rfl⟩
 rw[<-hq]at hR;obtain⟨ps,hps⟩:∃ps,l9 p f=ps:=⟨_,rfl⟩
 rw[hps]at hR rh|-;refine jz ps.length (λm=>(ps.drop m).all q=R) (λm=>⟨[(4,.slice (l.map Mail.c)),(7,.ptr (h.length+2) 0),(8,.ptr (h.length+3) 0),(24,.slice (ps.map ka)),(25,I ps.length),(26,I m)],h++[.cells [I p.ver,.slice (p.parts.map Part.c)],.cells [Bo f.all,.slice (f.reads.map ja),.slice (f.writes.map ja)],.cells [I t],.cells [I n]]⟩) af (Wk.mk ai ac am ag) ?_;intro m hm hI;have hw:=jj hm (show ps.length<=68719476736 by omega);simp-dsimp[go_sem,hN];refine ii ?_ ?_<;>intro hc<;>simp at hc
 .rw[jv hc,qi1]at hI;simp-dsimp[go_sem,hN,hc,ka];refine iy (xkm l _ _ (λx=>decide (x.txn=(t:Int))&&decide (x.frm=ps[m])&&decide (x.to=n)) _ qfz (λx hx=>xvq x _ _ _ _ t ps[m] n ac ac ac)) ?_;rintro r h' ⟨rfl,rfl⟩;rw[show(l.any λx=>decide (x.txn=(t:Int))&&decide (x.frm=ps[m])&&decide (x.to=n))=q ps[m]by rw[hq]];simp-dsimp[go_sem,hN];refine ii ?_ ?_<;>intro hd<;>simp at hd
  .rw[hd,fl]at hI;subst hI;simp-dsimp[go_sem,hN]
  .rw[hd,dh]at hI;simp-dsimp[go_sem,hN,hw];exact⟨hc,hI,mj⟩
 .rw[cq aa,List.all_nil]at hI;subst hI;simp-dsimp[go_sem,hN]
theorem jeb(p:Plc)(x:Shard)(t:Nat)(f:Foot):APure prog 96 [.agg p.c,.agg x.c,I t,.agg f.c] (.slice ((yl p x.node x.prs t f).map Mail.c)):=by
 have hxl:=xj9 p f;obtain⟨node,prs⟩:=x;have nk:=xq8 p ⟨node,prs⟩ f;have it:yl p node prs t f=if (pf p f&&jl prs&&p6 (l9 p f) node)=true then(ma p f).map λto=>⟨(t:Int),node,to,ql6 p f.reads node,qox p prs f⟩else []:=rfl;simp only at nk|-;rw[it];clear it;obtain⟨v,hv⟩:∃v,(pf p f&&jl prs)=v:=⟨_,rfl⟩
 rw[hv]at nk|-;refine kl func96 ntmps96 rfl ae rfl rfl λE h hN hh hu hb=>?_;simp[go_sem,Plc.c,Foot.c,Shard.c]at hb;simp-dsimp[go_sem,hN,Plc.c,Foot.c];refine jt 11 mixed ae ae ?_;simp-dsimp[go_sem,hN,Foot.c,Plc.c];refine m6 nk ac ?_;simp-dsimp[go_sem,hN];refine m6 (xf0 p f) ac ?_;simp-dsimp[go_sem,hN];refine kq (xcv (l9 p f) node) ac ?_;simp-dsimp[go_sem,hN];refine ii ?_ ?_<;>intro h0<;>simp at h0
 .rw[if_neg (by rcases h0 with h0|h0<;>simp[h0])];simp-dsimp[go_sem,hN]
 obtain⟨rfl,h1⟩:=h0;have hr:pf p f=true:=(by simpa using hv:pf p f=true/\jl prs=true).1;have hpv:=(qnm hr).1;rw[if_pos (by rw[h1];rfl)];clear hv nk;have oz:f.reads.length<=68719476736:=hb.2.2.1.1;simp-dsimp[go_sem,hN,Plc.c,Foot.c];refine iv (xm5 p f) ?_;simp-dsimp[go_sem,hN];obtain⟨xs,hxs⟩:∃xs,ma p f=xs:=⟨_,rfl⟩
 rw[hxs]at hxl|-;obtain⟨G,hG⟩:∃G:Int->Mail,G=λto=>⟨(t:Int),node,to,ql6 p f.reads node,qox p prs f⟩:=⟨_,rfl⟩
 rw[<-hG];obtain⟨F,hF⟩:∃F:Nat->List Mail,F=λn=>(xs.take n).map G:=⟨_,rfl⟩
 have hF0:F 0=[]:=qiu;have w6:F xs.length=xs.map G:=by rw[hF];simp
 have s9:∀n (hn:n<xs.length),F (n+1)=F n++[G xs[n]]:=λn hn=>by
  rw[hF];simp only[ec hn,eg];rfl
 have uq:∀n,(F n).length<=16:=λn=>by
  rw[hF];simp only[eo,ey];omega
 obtain⟨B,hB⟩:∃B:g9,B=h++[.cells [I p.ver,.slice (p.parts.map Part.c)],.cells [I node,.slice (prs.map Pr.c)],.cells [Bo f.all,.slice (f.reads.map ja),.slice (f.writes.map ja)]]:=⟨_,rfl⟩
 refine jz xs.length (λ_=>True) (λn=>⟨[(2,I t),(4,.ptr h.length 0),(5,.ptr (h.length+1) 0),(7,.ptr (h.length+2) 0),(9,.own (h.length+3) (F n).length),(31,.slice (xs.map ka)),(32,I xs.length),(33,I n)],h++[.cells [I p.ver,.slice (p.parts.map Part.c)],.cells [I node,.slice (prs.map Pr.c)],.cells [Bo f.all,.slice (f.reads.map ja),.slice (f.writes.map ja)],.arr 162 5 ((F n).map Mail.c)]⟩) trivial ((qq1 E _ 9 162 5 ag).trans (by rw[hF0];exact mj)) ?_;intro n hn _;have hw:=jj hn (show xs.length<=68719476736 by omega);have yb:=uq n;have pz:=s9 n;simp-dsimp[go_sem,hN];refine ii ?_ ?_<;>intro hc<;>simp at hc
 .have pz:=pz hc;simp-dsimp[go_sem,hN,hc,ka];refine jt 10 mixed ae ae ?_;simp-dsimp[go_sem,hN];refine m6 (jbs p ⟨node,prs⟩ f) ac ?_;simp-dsimp[go_sem,hN];obtain⟨to,hto⟩:∃to,xs[n]=to:=⟨_,rfl⟩
  simp only[hto]at pz|-;obtain⟨Lc,hLc⟩:∃Lc,qox p prs f=Lc:=⟨_,rfl⟩
  have hGn:(G to).c=[I t,I node,I to,.slice ((ql6 p f.reads node).map ja),.slice (Lc.map Pr.c)]:=by rw[hG,<-hLc];rfl
  rw[hLc];obtain⟨K,hK⟩:∃K:Nat->List ig,K=λj=>ql6 p (f.reads.take j) node:=⟨_,rfl⟩
  have hK0:K 0=[]:=qit;have hKe:K f.reads.length=ql6 p f.reads node:=by rw[hK];simp
  have hK1:∀j (hj:j<f.reads.length),K (j+1)=K j++(if decide (ly p f.reads[j]=node)=true then [f.reads[j]]else []):=λj hj=>by
   rw[hK];exact xa4 hj
  have hKl:∀j,(K j).length<=j:=λj=>by rw[hK];exact qzr _ _ _
  refine jz f.reads.length (λ_=>True) (λj=>⟨[(2,I t),(4,.ptr h.length 0),(5,.ptr (h.length+1) 0),(7,.ptr (h.length+2) 0),(9,.own (h.length+3) (F n).length),(12,.ptr (h.length+4) 0),(31,.slice (xs.map ka)),(32,I xs.length),(33,I n),(47,.slice (f.reads.map ja)),(48,I f.reads.length),(49,I j)],
   h++[.cells [I p.ver,.slice (p.parts.map Part.c)],.cells [I node,.slice (prs.map Pr.c)],.cells [Bo f.all,.slice (f.reads.map ja),.slice (f.writes.map ja)],.arr 162 5 ((F n).map Mail.c),.cells [I t,I node,I to,.own (h.length+5) (K j).length,.slice (Lc.map Pr.c)],.arr 9 1 ((K j).map ja)]⟩) trivial
   ((qol E _ (p:=h.length+4) (j:=3) (t:=9) (sz:=1) (xs:=[I t,I node,I to,.nils,.slice (Lc.map Pr.c)]) ac ac).trans (by rw[hK0];exact mj)) ?_
  intro j hj _;have hwj:=jj hj oz;have hj1:=hKl j;have hK2:=hK1 j;simp-dsimp[go_sem,hN];refine ii ?_ ?_<;>intro hd<;>simp at hd
  .have hK2:=hK2 hd;simp-dsimp[go_sem,hN,hd];refine jt 5 mixed ae ae ?_;simp-dsimp[go_sem,hN];refine m6 (xfg p _ hpv) ac ?_;simp-dsimp[go_sem,hN];refine ii ?_ ?_<;>intro he<;>simp at he
   .rw[if_pos (by simpa using he)]at hK2;simp-dsimp[go_sem,hN,hwj];refine⟨aa,hd,?_⟩;rw[hK2];exact mj
   .rw[if_neg (by simpa using he),ej]at hK2;simp-dsimp[go_sem,hN,hwj];refine⟨hd,?_⟩;rw[hK2];exact mj
  .have hjj:j=f.reads.length:=aa;subst hjj;rw[hKe];simp-dsimp[go_sem,hN,hw];refine⟨aa,hc,?_⟩;rw[pz,eg,dj,fc,hGn];exact mj
 .have th:n=xs.length:=aa;subst th;simp-dsimp[go_sem,hN];rw[w6,qi3]
theorem xhe(a b:List Pr):(ws a b).1.length<=a.length+b.length:=by grind[ws,xfe]
theorem jki{α β:Type}(f:β->α->β)(b:β){l:List α}{n:Nat}(h:n<l.length):(l.take (n+1)).foldl f b=f ((l.take n).foldl f b) l[n]:=by
 rw[ec h,List.foldl_append];rfl
theorem ji2(t:Nat)(n:Int)(l:List Mail)(L:Nat)(hL:∀m∈uj t n l,m.prs.length<=L)(hM:((uj t n l).length+1) * L<68719476736) :
  APure prog 101 [I t,I n,.slice (l.map Mail.c)] (.tuple [.slice ((u3 t n l).1.map Pr.c),I (u3 t n l).2]):=by
 obtain⟨R,hR⟩:∃R,u3 t n l=R:=⟨_,rfl⟩
 rw[hR];unfold u3 at hR;refine kl func101 ntmps101 rfl ae rfl rfl λE h hN hh hu hb=>?_;simp[go_sem]at hb;simp-dsimp[go_sem,hN];obtain⟨g,hg⟩:∃g:List Mail->Mail->List Mail,g=λiw m=>if (qtc t n m&&!iw.any (λx=>eqM x m))=true then iw++[m]else iw:=⟨_,rfl⟩
 obtain⟨F,hF⟩:∃F:Nat->List Mail,F=λk=>(l.take k).foldl g []:=⟨_,rfl⟩
 have hF0:F 0=[]:=af;have w6:F l.length=uj t n l:=by grind[uj]
 have s9:∀k (hk:k<l.length),F (k+1)=g (F k) l[k]:=λk hk=>by rw[hF];exact jki g [] hk
 have uq:∀k,k<=l.length->(F k).length<=k:=λk=>by
  induction k with
  |zero=>intro _;rw[hF0];simp
  |succ k ih =>
   intro hk;have:=ih aa;rw[s9 k aa,hg];simp only;split
   .simp;omega
   .omega
 refine jz l.length (λ_=>True) (λk=>⟨[(0,I t),(1,I n),(8,.own h.length (F k).length),(18,.slice (l.map Mail.c)),(19,I l.length),(20,I k)],h++[.arr 162 5 ((F k).map Mail.c)]⟩) trivial ((qq1 E _ 8 162 5 ag).trans qes) ?_;intro k hk _;have hw:=jj hk hb.1;have yb:=uq k hk;have pz:=s9 k;simp-dsimp[go_sem,hN];refine ii ?_ ?_<;>intro hc<;>simp at hc
 .have pz:=pz hc;simp-dsimp[go_sem,hN,hc];obtain⟨Y,hY⟩:∃Y:g9,Y=h++[.arr 162 5 ((F k).map Mail.c),.cells l[k].c]:=⟨_,rfl⟩
  have hcf:=xkm (F k) 141 [.ptr (h.length+1) 0] (λx=>eqM x l[k]) Y rfl (λx hx=>xzh x l[k] Y (h.length+1) ca);rw[hY]at hcf;refine qdz (λ_=>hcf) ac ?_ (λh=>h);clear hcf hY;obtain⟨D,hD⟩:∃D,((F k).any λx=>eqM x l[k])=D:=⟨_,rfl⟩
  rw[hD];rw[hg]at pz;simp only[hD]at pz;simp-dsimp[go_sem,hN];refine ii (λhd=>?_) (λhd=>?_)
  .rw[if_pos (by grind[qtc])]at pz;simp-dsimp[go_sem,hN,hw];refine⟨aa,hc,?_⟩;rw[pz,eg,c7];exact mj
  .rw[if_neg (by grind[qtc])]at pz;simp-dsimp[go_sem,hN,hw];refine⟨hc,?_⟩;rw[pz];exact mj
 .have hkk:k=l.length:=aa;subst hkk;rw[w6]at yb|-;clear pz s9 uq w6 hF0 hF hg;obtain⟨M,hMe⟩:∃M,uj t n l=M:=⟨_,rfl⟩
  rw[hMe]at hR hL hM yb|-;have hMl:M.length<=68719476736:=aa;simp-dsimp[go_sem,hN];refine ii ?_ ?_<;>intro h0<;>simp at h0
  .rw[if_pos cj]at hR;subst hR;simp-dsimp[go_sem,hN]
  rw[if_neg cj]at hR;simp-dsimp[go_sem,hN];refine jz M.length (λk=>((M.drop k).any λm=>!jl m.prs)=(M.any λm=>!jl m.prs)) (λk=>⟨[(8,.slice (M.map Mail.c)),(48,.slice (M.map Mail.c)),(49,I M.length),(50,I k)],h⟩) ac ((quy E _).trans (Wk.mk ai ac aa ag)) ?_;intro k hk hI;have hw:=jj hk hMl;simp-dsimp[go_sem,hN];refine ii ?_ ?_<;>intro hc<;>simp at hc
  .rw[jv hc,qjd]at hI;simp-dsimp[go_sem,hN,hc];refine iv (qb6 M[k].prs) ?_;simp-dsimp[go_sem,hN];refine ii ?_ ?_<;>intro hd<;>simp at hd
   .rw[hd,qj3,Bool.true_or]at hI;rw[if_pos hI.symm]at hR;subst hR;simp-dsimp[go_sem,hN]
   .rw[hd,Bool.not_true,qi0]at hI;simp-dsimp[go_sem,hN,hw];exact⟨hc,hI,(Wk.mk ai ac aa ag)⟩
  rw[cq aa,qjx]at hI;rw[if_neg af]at hR;simp-dsimp[go_sem,hN];refine td (α:=List Pr) M.length (λk out=>qq5 (M.take k) (M.drop k) out=R/\out.length<=k * L) (λk out=>⟨[(8,.slice (M.map Mail.c)),(13,.slice (out.map Pr.c)),(59,.slice (M.map Mail.c)),(60,I M.length),(61,I k)],h⟩) [] af ((quy E _).trans (Wk.mk ai ac aa ag)) ?_;intro k out hk hI;obtain⟨hI,hlo⟩:=hI;have hw:=jj hk hMl;simp-dsimp[go_sem,hN];refine ii ?_ ?_<;>intro hc<;>simp at hc
  .have hkM:(k+1) * L<=(M.length+1) * L:=dx _ aa;rw[ee,fo]at hkM;have hmL:=hL _ (dk hc);rw[jv hc,qq5]at hI;simp-dsimp[go_sem,hN,hc];refine⟨aa,?_⟩;rw[<-gd];obtain⟨Y,hY⟩:∃Y:g9,Y=h++[.cells M[k].c]:=⟨_,rfl⟩
   have hcf:=xkm (M.take k) 143 [.ptr h.length 0] (λx=>decide (x.frm=M[k].frm)) Y rfl (λx hx=>jke x M[k] Y h.length af);rw[hY]at hcf;refine iy hcf ?_;clear hcf hY;rintro r h' ⟨rfl,rfl⟩;obtain⟨D,hD⟩:∃D,((M.take k).any λx=>decide (x.frm=M[k].frm))=D:=⟨_,rfl⟩
   rw[hD]at hI|-;simp-dsimp[go_sem,hN];refine ii (λhd=>?_) (λhd=>?_)
   .rw[if_pos hd]at hI;subst hI;simp-dsimp[go_sem,hN]
   rw[if_neg af]at hI;have vp:=xhe out M[k].prs;simp-dsimp[go_sem,hN];refine iv (xpo out M[k].prs aa) ?_;simp-dsimp[go_sem,hN];refine ii ?_ ?_<;>intro he<;>simp at he
   .rw[if_pos he]at hI;subst hI;simp-dsimp[go_sem,hN]
   .rw[if_neg (by simp[he])]at hI;rw[<-ec hc]at hI;simp-dsimp[go_sem,hN,hw];refine⟨hc,_,⟨hI,?_⟩,(Wk.mk ai ac aa ag)⟩;rw[ee,fo];omega
  .rw[cq aa,qq5]at hI;subst hI;simp-dsimp[go_sem,hN]
end Go.Proofs.YtolejdhnnchfpaaGreatDoor
set_option maxRecDepth 4000
set_option maxHeartbeats 2000000
namespace Go.Proofs.YtolejdhnnchfpaaGreatDoor
open Go Go.Abs Go.Cw Go.Proofs.Tryz
theorem jia(x:LReq)(h:g9)(i:Nat)(t:Int)(hi:h[i]?=some (.cells [I t])):ACalls prog 198 [.agg x.c,.ptr i 0] h λr h'=>r=.ret (Bo (decide (x.t=t)))/\h'=h:=by
 refine mh func198 ntmps198 rfl ae rfl λE hN hh hu hb iq ju=>?_;have ke:i<h.length:=(cm.1 hi).1;have a1:∀l,(h++l)[i]?=some (.cells [I t]):=λl=>by rw[co ke];exact hi
 simp-dsimp[go_sem,hN,a1,hu,LReq.c];exact⟨_,.refl _,h,ag,ag,ac,aq,rfl,rfl⟩
theorem jer(x:LReq)(t:Int):APure prog 198 [.agg x.c,.eptr [I t]] (Bo (decide (x.t=t))):=by
 refine kl func198 ntmps198 rfl ae rfl rfl λE h hN hh hu hb=>?_;simp-dsimp[go_sem,hN,LReq.c]
theorem qh{N i:Nat}{H:g9}{ob:AObj}(h:hUnder N H=true)(ho:ob.under N=true):hUnder N (H.set i ob)=true:=by grind[qb1]
theorem xbr{H:g9}{i:Nat}{ob:AObj}(h:H[i]?=some ob):H.set i ob=H:=by
 apply fh;intro k;by_cases e:k=i
 .grind
 .grind
def tp(t:Int)(l:List LReq):List LReq:=l.filter λx=>!wx t x
theorem xy3{H:g9}{i ci:Nat}(l:List LReq)(t:Int)(hi:H[i]?=some (.uarr 152 2 (l.map LReq.c)))(hci:H[ci]?=some (.cells [I t]))(hl:l.length<68719476736) :
  ACalls prog 197 [.own i l.length,.fn (.func 198) [] [.ptr ci 0]] H λr H'=>r=.ret (.slice ((tp t l).map LReq.c))/\∃X,H'=H.set i (.arr 152 2 X):=by
 refine re func197 rfl ae (by simp[ntmps197]) ?_;intro E hN hh hu hb iq ju;rw[ntmps197]at hN;have ou:=(cm.1 hi).1;have ki:=(cm.1 hci).1;have it:i≠ci:=λe=>by rw[e,hci]at hi;cases hi
 refine tg (qr6 ?_);simp[go_sem,hN];refine tg (qeq [_,_] _ ?_);simp[go_sem,hN];intro c a w s k;refine xrq s k (f:=.func 129) (args:=#[.tmp 8,.tmp 9]) rfl qhw rfl ag (fid:=129) ag
  (λy=>match y with| .tmp 8=>.slice (l.map LReq.c)|_=>.fn (.func 198) [] [.eptr [I t]]) ?_ (x:=I (nv (wx t) l)) (λh=>xl1 l _ _ (wx t) h qfz λx=>jer x t h) rfl ?_
 .intro y hy v hr;simp only[c0,qjc,or_false]at hy;rcases hy with rfl|rfl
  .exact jf8 (n:=l.length) s.hs hi ac qf1
  .exact xxb (λu hu=>xz7 s.hs hci (by simp[AV.isData];rfl) hu) qf1
 intro a' w' s' k';refine qca _ [_,_,_] _ rfl ?_ _ a' w' s' k';simp[go_sem,hN];have hfe:tp t l=l.filter λx=>!wx t x:=rfl;clear s' k' s k;rcases qzz (wx t) l with⟨h1,h2⟩|⟨m,hm,h1,h2⟩
 .rw[h1];refine AWp.wk (qdt E _ (i:=i) hi) ?_;apply jo;have uz:(H.set i (.arr 152 2 (l.map LReq.c)))[i]?=some (.arr 152 2 (l.map LReq.c)):=du ou;simp-dsimp[go_sem,hN,uz];have hd:tp t l=l:=List.filter_eq_self.2 λx hx=>by grind
  exact⟨_,.refl _,H.set i (.arr 152 2 (l.map LReq.c)),rfl,hwk.refl _,ac,qfq,by rw[hd],_,rfl⟩
 .rw[h1];have hw1':IntKind.i64.wrap ((m:Int)+1)=((m+1:Nat):Int):=by rw[jj (ez hm) aa];omega
  refine xcj (e1:=⟨[(0,.own i l.length),(1,.fn (.func 198) [] [.ptr ci 0]),(5,I m)],H⟩) ?_ ?_
  .simp-dsimp[go_sem,hN];exact Wk.slots bi
  refine xh0 (ι:=List LReq) (λA=>A.length=l.length/\A.take (tp t l).length=tp t l) (λA=>⟨[(0,.own i l.length),(5,I (tp t l).length)],H.set i (.uarr 152 2 (A.map LReq.c))⟩) ?_ ?_
  rotate_left
  .rintro A ⟨a1,a2⟩;have hi3:(H.set i (.uarr 152 2 (A.map LReq.c)))[i]?=some (.uarr 152 2 (A.map LReq.c)):=du ou;refine tg (qeq [_,_] _ ?_);simp[go_sem,hN];intro c a w s k;refine jk2 s k (T:=98) (el:=152) (x:=.tmp 36) (y:=.tmp 37) (d1:=38) (n:=l.length) (j:=(tp t l).length) (i:=i) (sz:=2) (zr:=[I 0,Bo false]) (rows:=A.map LReq.c) rfl rfl rfl aa rfl rfl rfl ac ac ac aa ac (by simp[go_sem];exact⟨rfl,rfl⟩) ag ag ag hi3 (by simp[a1]) af ?_;intro a' w' s' k';refine qca _ [_,_,_,_] _ rfl ?_ c a' w' s' k';simp[go_sem,hN];clear s' k' s k;have hjl:(tp t l).length<=l.length:=qjv _ _;obtain⟨R,hR⟩:∃R,List.take (tp t l).length (List.map LReq.c A)++List.replicate (l.length - (tp t l).length) [I 0,Bo false]=R:=⟨_,rfl⟩
   have hRl:R.length=l.length:=af;have hRt:R.take (tp t l).length=(tp t l).map LReq.c:=by rw[<-hR,qkb af,List.take_take,Nat.min_self,<-gd,a2]
   rw[hR];refine AWp.wk (qdt E _ (i:=i) (t:=152) (sz:=2) (rows:=R) af) ?_;have hi5:(H.set i (.arr 152 2 R))[i]?=some (.arr 152 2 R):=du ou;apply jo;simp only[qi2];simp-dsimp[go_sem,hN,hi5,hRl,hRt,hjl];refine⟨λr hr=>?_,?_⟩
   .rw[<-hR]at hr;rcases dw.1 hr with h9|h9
    .obtain⟨x,_,rfl⟩:=cy.1 (qi7 h9);rfl
    .grind
   exact⟨_,.refl _,H.set i (.arr 152 2 R),rfl,hwk.refl _,ac,qfq,rfl,_,rfl⟩
  simp-dsimp[go_sem,hN];rw[hw1'];have hd1:tp t (l.take (m+1))=l.take m:=by
   unfold tp;rw[ec hm,List.filter_append];have e1:(l.take m).filter (λx=>!wx t x)=l.take m:=List.filter_eq_self.2 λx hx=>by
    rw[<-xkc (wx t) l 0 m (by rw[cz];exact h1)]at hx;exact dr.1 List.all_takeWhile x hx
   have e2:wx t l[m]=true:=List.find?_some h2;rw[e1];simp[e2]
  refine td (α:=List LReq) (l.length - (m+1)) (λn A=>A.length=l.length/\A.take (tp t (l.take (m+1+n))).length=tp t (l.take (m+1+n))/\A.drop (m+1+n)=l.drop (m+1+n)/\(tp t (l.take (m+1+n))).length<=m+n)
   (λn A=>⟨[(0,.own i l.length),(1,.fn (.func 198) [] [.ptr ci 0]),(5,I ((tp t (l.take (m+1+n))).length)),(6,I ((m+1+n:Nat)))],H.set i (.uarr 152 2 (A.map LReq.c))⟩) l ?_ ?_ ?_
  .grind
  .rw[xbr hi,ea,hd1];have:(l.take m).length=m:=af;rw[this];exact Wk.slots bi
  rintro n A hn ⟨a1,a2,a3,a4⟩;obtain⟨k,hk⟩:∃k,m+1+n=k:=⟨_,rfl⟩
  obtain⟨j,hj⟩:∃j,(tp t (l.take k)).length=j:=⟨_,rfl⟩
  rw[show m+1+(n+1)=k+1 by omega];rw[hk]at a2 a3 a4|-;rw[hj]at a2 a4|-;have hi3:(H.set i (.uarr 152 2 (A.map LReq.c)))[i]?=some (.uarr 152 2 (A.map LReq.c)):=du ou;have hi4:∀Z,(H.set i (.uarr 152 2 (A.map LReq.c))++Z)[i]?=some (.uarr 152 2 (A.map LReq.c)):=λZ=>by rw[co af];exact hi3
  have hc4:∀Z,(H.set i (.uarr 152 2 (A.map LReq.c))++Z)[ci]?=some (.cells [I t]):=λZ=>by rw[co af,ct it];exact hci
  have hw:=jj (n:=k) (L:=l.length) aa aa;have hwj:=jj (n:=j) (L:=l.length) aa aa;have hkl:k<=l.length:=aa;simp-dsimp[go_sem,hN,hi3,a1];refine ii ?_ ?_<;>intro hc<;>simp at hc
  .have hAk:∀h,A[k]'h=l[k]:=λh=>by
    have:(A.drop k)[0]?=(l.drop k)[0]?:=by rw[a3]
    rw[ew,ew,ea,cu h,cu hc]at this;exact gy this
   have hd2:tp t (l.take (k+1))=tp t (l.take k)++if wx t l[k]then []else [l[k]]:=by
    unfold tp;rw[ec hc,List.filter_append];congr 1;rcases h:wx t l[k]with _|_<;>simp[h]
   have hdk:A.drop (k+1)=l.drop (k+1):=by
    have:=congrArg (List.drop 1) a3
    rwa [List.drop_drop,List.drop_drop]at this
   have ya:j<l.length:=aa;simp-dsimp[go_sem,hN,hi3,hi4,a1,hc,hAk,LReq.c];refine iy (jia l[k] _ ci t (hc4 _)) ?_;rintro r h' ⟨rfl,rfl⟩;simp-dsimp[go_sem,hN];refine ii ?_ ?_<;>intro hg<;>simp at hg
   .simp-dsimp[go_sem,hN,hi3,hi4,a1,ya,hw,hwj,LReq.c];have hd3:tp t (l.take (k+1))=tp t (l.take k)++[l[k]]:=af;have hl3:(tp t (l.take (k+1))).length=j+1:=af;refine⟨aa,A.set j l[k],⟨by simp[a1],?_,?_,aa⟩,?_⟩
    .rw[hl3,hd3,<-a2,ec af,List.getElem_set_self,List.take_set_of_le (cn _)]
    .grind[List.drop_set]
    .rw[hl3,e6 _ _ af,qi2,qiz];exact Wk.mk ai (hwk.app0 _) qfq (by simp[go_sem,LReq.c,ou,ki])
   .simp-dsimp[go_sem,hN,hw];have hd3:tp t (l.take (k+1))=tp t (l.take k):=af;refine⟨aa,A,⟨a1,by rw[hd3,hj];exact a2,hdk,by rw[hd3];omega⟩,?_⟩;rw[hd3,hj];exact Wk.mk ai (hwk.app0 _) qfq (by simp[go_sem,LReq.c,ou,ki])
  .have oq:k=l.length:=aa;simp-dsimp[go_sem,hN];refine⟨A,⟨a1,?_⟩,?_⟩
   .grind
   .rw[oq,gw]at hj;rw[hj];exact Wk.slots bi
end Go.Proofs.YtolejdhnnchfpaaGreatDoor
