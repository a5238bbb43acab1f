/- Part 40 of a proof. -/
import Derived.Test.YtolejdhnnchfpaaGreatDoorQ36
import Derived.Test.YtolejdhnnchfpaaGreatDoorQ39
set_option linter.all false
set_option maxRecDepth 4000
set_option maxHeartbeats 2000000
namespace Go.Proofs.YtolejdhnnchfpaaGreatDoor
open Go Go.Abs Go.Cw Go.Proofs.Tryz
section
theorem xvx(x:Proc)(h:g9)(i:Nat)(t:Txn)(hi:h[i]?=some (.cells t.c)):ACalls prog 173 [.agg x.c,.ptr i 0] h λr h'=>r=.ret (Bo (decide (x.name=t.proc)))/\h'=h:=by
 refine mh func173 ntmps173 rfl ae rfl λE hN hh hu hb iq ju=>?_;have ke:i<h.length:=(cm.1 hi).1;have a1:∀l,(h++l)[i]?=some (.cells t.c):=λl=>by rw[co ke];exact hi
 simp-dsimp[go_sem,hN,a1,hu,Txn.c];exact⟨_,.refl _,h,ag,ag,ac,aq,rfl,rfl⟩
theorem jg9(l:List Proc)(f:FuncId)(caps:List AV)(q:Proc->Bool)(h:g9)(hcn:ko h caps=caps)(hp:∀x:Proc,ACalls prog f ([.agg x.c]++caps) h λr h'=>r=.ret (Bo (q x))/\h'=h) :
  ACalls prog 172 [.slice (l.map Proc.c),.fn (.func f) [] caps] h λr h'=>r=.ret (I (nv q l))/\h'=h:=by
 refine mh func172 ntmps172 rfl ae rfl λE hN hh hu hb iq ju=>?_;simp[go_sem]at hb;simp-dsimp[go_sem,hN];refine jz l.length (λn=>ph q n (l.drop n)=nv q l) (λn=>⟨[(0,.slice (l.map Proc.c)),(1,.fn (.func f) [] caps),(7,I l.length),(8,I n)],h⟩) qgd (Wk.mk ai ac qfx qet) ?_;intro n hn hI;have hw:=jj hn hb.1;simp-dsimp[go_sem,hN];refine ii ?_ ?_<;>intro hc<;>simp at hc
 .rw[jv hc,ph]at hI;simp-dsimp[go_sem,hN,hc,hcn];refine iy (hp l[n]) ?_;rintro r h' ⟨rfl,rfl⟩;simp-dsimp[go_sem,hN];refine ii ?_ ?_<;>intro hg<;>try simp at hg
  .simp-dsimp[go_sem,hN];rw[if_pos hg]at hI;rw[hI];exact⟨_,.refl _,h',ag,ag,ac,aq,rfl,rfl⟩
  .simp-dsimp[go_sem,hN,hw];exact⟨hc,br,Wk.mk ai ac qfx qet⟩
 .rw[cq aa,ph]at hI;simp-dsimp[go_sem,hN,<-hI];exact⟨_,.refl _,h,ag,ag,ac,aq,rfl,rfl⟩
theorem xp0{α:Type}(q:α->Bool):∀(l:List α) (n:Nat),(ph q n l = -1/\l.find? q=none)\/∃(m:Nat) (hm:m<l.length),ph q n l=((n+m:Nat):Int)/\l.find? q=some l[m]
 | [],n=>.inl ⟨by rw[ph],rfl⟩
 |x::l,n=>by
  rw[ph];by_cases h:q x=true
  .right;exact⟨0,ac,bx,bx⟩
  .rw[if_neg h];rcases xp0 q l (n+1)with⟨h1,h2⟩|⟨m,hm,h1,h2⟩
   .grind
   .refine .inr ⟨m+1,az,?_,?_⟩
    .omega
    .grind
theorem ja9{α:Type}(q:α->Bool)(l:List α):(nv q l = -1/\l.find? q=none)\/∃(m:Nat) (hm:m<l.length),nv q l=(m:Int)/\l.find? q=some l[m]:=by grind[nv,xp0]
def xfk:Proc:=⟨em,[],[]⟩
theorem jih(procs:List Proc)(t:Txn):APure prog 144 [.slice (procs.map Proc.c),.agg t.c] (.tuple [.agg ((qo7 procs t).getD xfk).c,Bo (qo7 procs t).isSome]):=by
 refine kl func144 ntmps144 rfl ae rfl rfl λE h hN hh hu hb=>?_;simp[go_sem]at hb;obtain⟨R,hR⟩:∃R,qo7 procs t=R:=⟨_,rfl⟩
 rw[hR];unfold qo7 xs0 at hR;simp-dsimp[go_sem,hN];refine iy (jg9 procs _ _ (λx=>decide (x.name=t.proc)) _ qfz (λx=>xvx x _ _ t (by simp[Txn.c]))) ?_;rintro r h' ⟨rfl,rfl⟩;rcases ja9 (λx:Proc=>decide (x.name=t.proc)) procs with⟨h1,h2⟩|⟨m,hm,h1,h2⟩
 .rw[h2]at hR;simp only at hR;subst hR;rw[h1];simp-dsimp[go_sem,hN];refine jt 9 mixed ae ae ?_;simp-dsimp[go_sem,hN];refine qd3 ?_;simp-dsimp[go_sem,hN,xfk]
 .rw[h2]at hR;simp only at hR;rw[h1];simp-dsimp[go_sem,hN];refine jt 9 mixed ae ae ?_;simp-dsimp[go_sem,hN,hm,Txn.c];refine kq (xnl procs[m] t.args) ac ?_;simp-dsimp[go_sem,hN];refine ii ?_ ?_<;>intro h3<;>simp at h3
  .rw[if_neg aa]at hR;subst hR;simp-dsimp[go_sem,hN,xfk]
  .rw[if_pos aa]at hR;subst hR;simp-dsimp[go_sem,hN,hm]
variable {tT:TypeId} {tx:Nat×Nat} {g:Nat}
theorem jcr(procs:List Proc)(s:List Pr)(t:Txn)(h:g9)(hg:h[g]?=some (rn tT tx))(hI:∀p,qo7 procs t=some p->RunIn ku p t.args s)(hL:s.length<=60000000000) :
  ACalls prog 102 [.slice (procs.map Proc.c),.slice (s.map Pr.c),.agg t.c] h λr h'=>r=.ret (.tuple [.slice ((ru ku procs s t).1.map Pr.c),.agg (ru ku procs s t).2.c])/\h'=h:=by
 refine mh func102 ntmps102 rfl ae rfl λE hN hh hu hb iq ju=>?_;have v7:g<h.length:=(cm.1 hg).1;have jp:∀l:g9,(h++l)[g]?=some (rn tT tx):=λl=>by rw[co v7];exact hg
 simp[go_sem]at hb;obtain⟨R,hR⟩:∃R,ru ku procs s t=R:=⟨_,rfl⟩
 rw[hR];unfold ru at hR;simp-dsimp[go_sem,hN,Txn.c];refine iv (jih procs t) ?_;rcases hF:qo7 procs t with _|p
 .rw[hF]at hR;simp only at hR;subst hR;simp-dsimp[go_sem,hN,xfk];refine iv (xit s) ?_;simp-dsimp[go_sem,hN,yj];exact⟨_,.refl _,h,ag,hwk.app0 _,cn _,hu,rfl,rfl⟩
 .rw[hF]at hR;simp only at hR;have hRun:=hI p hF;have hc1:=λh=>xom (fmt:=ku) (p:=p) (args:=t.args) (s:=s) (ft:=t.ft) h;have nh:=λh=>(xeg (ft:=t.ft) hRun h).2.2;have hlw:=xf3 (ft:=t.ft) hRun;have qq2:=λH hH=>xzk (g:=g) (tT:=tT) (tx:=tx) p t.args s t.ft H hH hRun;obtain⟨e,he⟩:∃e,oi ku p t.args s t.ft=e:=⟨_,rfl⟩
  rw[he]at hR hc1 nh hlw;simp only[he]at qq2;simp-dsimp[go_sem,hN];refine iy (qq2 _ (jp _)) ?_;rintro r h' ⟨rfl,rfl⟩;simp-dsimp[go_sem,hN];refine ii ?_ ?_<;>intro h0<;>simp at h0
  .rw[if_pos h0]at hR;subst hR;have hA:=xtn s e.writes aa;rw[hc1 h0,nh h0]at hA;simp only[Bool.and_self,if_true]at hA;simp-dsimp[go_sem,hN];refine iv hA ?_;simp-dsimp[go_sem,hN];refine jt 3 mixed ae ae ?_;simp-dsimp[go_sem,hN];exact⟨_,.refl _,h,ag,hwk.app0 _,cn _,hu,rfl,rfl⟩
  .rw[if_neg h0]at hR;subst hR;simp-dsimp[go_sem,hN];refine jt 4 mixed ae ae ?_;simp-dsimp[go_sem,hN];refine m6 (xit s) ac ?_;simp-dsimp[go_sem,hN];exact⟨_,.refl _,h,ag,hwk.app0 _,cn _,hu,rfl,rfl⟩
end
end Go.Proofs.YtolejdhnnchfpaaGreatDoor
set_option maxRecDepth 8000
set_option maxHeartbeats 4000000
namespace Go.Proofs.YtolejdhnnchfpaaGreatDoor
open Go Go.Abs Go.Cw
section
variable {procs:List Proc} {p:Plc} {txns:List Txn} {H H':g9} {l:List Shard}
theorem jf0:qm2 (.pointer none)=.val (.pointer none):=rfl
def qc(p:Plc)(txns:List Txn)(m:Nat)(x:Shard):Nd:=⟨x.node,x.prs,rz p txns x.node m,[],List.replicate txns.length false,List.replicate txns.length false⟩
abbrev syI(procs:List Proc)(p:Plc)(txns:List Txn)(L:Nat)(a4 a5 a6 a7 a8:AV):List AV :=
 [.slice (procs.map Proc.c),I p.ver,.slice (p.parts.map Part.c),.slice (txns.map Txn.c),a4,a5,a6,a7,a8,.own (L+1) txns.length]
structure SysI(H:g9)(procs:List Proc)(p:Plc)(txns:List Txn)(X:g9)(ks:List NK)(nds:List Nd)(Fs:List Foot)(Ps Es:List (List Int)):Prop where
 hp:X[H.length]?=some (.cells [I p.ver,.slice (p.parts.map Part.c)])
 he:X[H.length+1]?=some (.uarr 82 8 (List.replicate txns.length Cw.effZ.c))
 hs:X[H.length+2]?=some (.cells (syI procs p txns H.length (.own (H.length+5) Fs.length) (.own (H.length+6) Ps.length) (.own (H.length+7) Es.length) (.own (H.length+3) ks.length) (.own (H.length+4) 0)))
 hq:X[H.length+3]?=some (.oarr 97 1 (ks.map λk=>[.ptr k.c 0]))
 ht:X[H.length+4]?=some (.uarr 162 5 [])
 hf:X[H.length+5]?=some (.arr 76 3 (Fs.map Foot.c))
 hpa:X[H.length+6]?=some (.arr 34 1 (Ps.map iR))
 hx:X[H.length+7]?=some (.arr 34 1 (Es.map iR))
 len:ks.length=nds.length
 nd:∀(i:Nat) (k:NK) (x:Nd),ks[i]?=some k->nds[i]?=some x->NdH X k x
 sep:∀(i j:Nat) (a b:NK),ks[i]?=some a->ks[j]?=some b->(i≠j->a.c≠b.c/\a.ib≠b.ib/\a.sd≠b.sd/\a.xd≠b.xd)/\a.sd≠b.xd
 lk:∀k∈ks,H.length+8<=k.c/\H.length+8<=k.ib/\H.length+8<=k.sd/\H.length+8<=k.xd
 und:hUnder X.length X=true
 big:H.length+8<=X.length
 old:∀j,j<H.length->X[j]?=H[j]?
section
variable {X X':g9} {ks:List NK} {nds:List Nd} {Fs:List Foot} {Ps Es:List (List Int)}
theorem SysI.ndLt(S:SysI H procs p txns X ks nds Fs Ps Es){k:NK}(h:k∈ks):k.c<X.length/\k.ib<X.length/\k.sd<X.length/\k.xd<X.length:=by
 obtain⟨i,hi⟩:=da h;have hl:i<nds.length:=by rw[<-S.len];exact(cm.1 hi).1
 exact(S.nd i k nds[i] hi (cu hl)).lt
theorem SysI.cols(S:SysI H procs p txns X ks nds Fs Ps Es){Fs':List Foot}{Ps' Es':List (List Int)}(hs:X'[H.length+2]?=some (.cells (syI procs p txns H.length (.own (H.length+5) Fs'.length) (.own (H.length+6) Ps'.length) (.own (H.length+7) Es'.length) (.own (H.length+3) ks.length) (.own (H.length+4) 0))))
  (hf:X'[H.length+5]?=some (.arr 76 3 (Fs'.map Foot.c))) (hpa:X'[H.length+6]?=some (.arr 34 1 (Ps'.map iR))) (hx:X'[H.length+7]?=some (.arr 34 1 (Es'.map iR)))
  (km:∀j,j<X.length->j≠H.length+2->j≠H.length+5->j≠H.length+6->j≠H.length+7->X'[j]?=X[j]?) (hl:X.length<=X'.length) (hu:hUnder X'.length X'=true):SysI H procs p txns X' ks nds Fs' Ps' Es':=by
 have hb:=S.big;refine { hp:=by rw[km _ aa aa aa aa aa];exact S.hp,he:=by rw[km _ aa aa aa aa aa];exact S.he,hs:=hs,hq:=by rw[km _ aa aa aa aa aa];exact S.hq,ht:=by rw[km _ aa aa aa aa aa];exact S.ht,hf:=hf,hpa:=hpa,hx:=hx,len:=S.len,nd:=λi k x hk hx=>?_,sep:=S.sep,lk:=S.lk,und:=hu,big:=by omega,old:=λj hj=>by rw[km _ aa aa aa aa aa];exact S.old j hj };have N:=S.nd i k x hk hx;obtain⟨m1,m2,m3,m4⟩:=N.lt;obtain⟨k1,k2,k3,k4⟩:=S.lk k (cv hk);exact⟨by rw[km _ m1 aa aa aa aa];exact N.hc,by rw[km _ m2 aa aa aa aa];exact N.hi,by rw[km _ m3 aa aa aa aa];exact N.hs,by rw[km _ m4 aa aa aa aa];exact N.hx⟩
theorem SysI.add(S:SysI H procs p txns X ks nds Fs Ps Es){k:NK}{x:Nd}(hs:X'[H.length+2]?=some (.cells (syI procs p txns H.length (.own (H.length+5) Fs.length) (.own (H.length+6) Ps.length) (.own (H.length+7) Es.length) (.own (H.length+3) (ks.length+1)) (.own (H.length+4) 0))))
  (hq:X'[H.length+3]?=some (.oarr 97 1 ((ks.map λk=>[.ptr k.c 0])++[[.ptr k.c 0]]))) (hn:NdH X' k x) (hk:X.length<=k.c/\X.length<=k.ib/\X.length<=k.sd/\X.length<=k.xd) (hsx:k.sd≠k.xd)
  (km:∀j,j<X.length->j≠H.length+2->j≠H.length+3->X'[j]?=X[j]?) (hl:X.length<=X'.length) (hu:hUnder X'.length X'=true):SysI H procs p txns X' (ks++[k]) (nds++[x]) Fs Ps Es:=by
 have hb:=S.big;refine { hp:=by rw[km _ aa aa aa];exact S.hp,he:=by rw[km _ aa aa aa];exact S.he,hs:=by simpa using hs,hq:=by simpa using hq,ht:=by rw[km _ aa aa aa];exact S.ht,hf:=by rw[km _ aa aa aa];exact S.hf,hpa:=by rw[km _ aa aa aa];exact S.hpa,hx:=by rw[km _ aa aa aa];exact S.hx,len:=by simp[S.len],nd:=λi a y ha hy=>?_,sep:=λi j a b ha iq=>?_,lk:=λa ha=>?_,und:=hu,big:=by omega,old:=λj hj=>by rw[km _ aa aa aa];exact S.old j hj }
 .rcases oy ha with ha|⟨rfl,rfl⟩
  .have ou:=(cm.1 ha).1;rw[co (by rw[<-S.len];exact ou)]at hy;have N:=S.nd i a y ha hy;obtain⟨m1,m2,m3,m4⟩:=N.lt;obtain⟨k1,k2,k3,k4⟩:=S.lk a (cv ha);exact⟨by rw[km _ m1 aa aa];exact N.hc,by rw[km _ m2 aa aa];exact N.hi,by rw[km _ m3 aa aa];exact N.hs,by rw[km _ m4 aa aa];exact N.hx⟩
  .rw[S.len,cx (cn _),fe]at hy;cases hy;exact hn
 .rcases oy ha with ha|⟨rfl,rfl⟩<;>rcases oy iq with iq|⟨rfl,rfl⟩
  .exact S.sep i j a b ha iq
  .have:=S.ndLt (cv ‹ks[i]?=some a›);exact⟨λ_=>⟨aa,aa,aa,aa⟩,aa⟩
  .have:=S.ndLt (cv iq);exact⟨λ_=>⟨aa,aa,aa,aa⟩,aa⟩
  .omega
 .rcases dw.1 ha with ha|ha
  .exact S.lk a ha
  .grind
theorem SysI.upN(S:SysI H procs p txns X ks nds Fs Ps Es){i:Nat}{k:NK}{x:Nd}(hk:ks[i]?=some k){T:LT}(hx:nds[i]?=some x)
  (km:∀j,j<X.length->j≠k.c->X'[j]?=X[j]?) (hc:X'[k.c]?=some (.cells (ndC ⟨x.node,x.prs,T,x.inbox,x.sent,x.exd⟩ k))) (hl:X.length<=X'.length) (hu:hUnder X'.length X'=true):SysI H procs p txns X' ks (nds.set i ⟨x.node,x.prs,T,x.inbox,x.sent,x.exd⟩) Fs Ps Es:=by
 have hb:=S.big;obtain⟨k1,k2,k3,k4⟩:=S.lk k (cv hk);have N0:=S.nd i k x hk hx;refine { hp:=by rw[km _ aa aa];exact S.hp,he:=by rw[km _ aa aa];exact S.he,hs:=by rw[km _ aa aa];exact S.hs,hq:=by rw[km _ aa aa];exact S.hq,ht:=by rw[km _ aa aa];exact S.ht,hf:=by rw[km _ aa aa];exact S.hf,hpa:=by rw[km _ aa aa];exact S.hpa,hx:=by rw[km _ aa aa];exact S.hx,len:=by simp[S.len],nd:=λj a y ha hy=>?_,sep:=S.sep,lk:=S.lk,und:=hu,big:=by omega,old:=λj hj=>by rw[km _ aa aa];exact S.old j hj };by_cases e:j=i
 .subst e;rw[hk]at ha;cases ha;rw[du (cm.1 hx).1]at hy;cases hy;obtain⟨m1,m2,m3,m4⟩:=N0.lt;exact⟨hc,by rw[km _ m2 (λe=>by have h:=N0.hc;rw[<-e,N0.hi]at h;cases h)];exact N0.hi,by rw[km _ m3 (λe=>by have h:=N0.hc;rw[<-e,N0.hs]at h;cases h)];exact N0.hs,by rw[km _ m4 (λe=>by have h:=N0.hc;rw[<-e,N0.hx]at h;cases h)];exact N0.hx⟩
 .rw[ct (Ne.symm e)]at hy;have N:=S.nd j a y ha hy;obtain⟨m1,m2,m3,m4⟩:=N.lt;have hs:=(S.sep j i a k ha hk).1 e;exact⟨by rw[km _ m1 hs.1];exact N.hc,by rw[km _ m2 (λe=>by have h:=N0.hc;rw[<-e,N.hi]at h;cases h)];exact N.hi,by rw[km _ m3 (λe=>by have h:=N0.hc;rw[<-e,N.hs]at h;cases h)];exact N.hs,by rw[km _ m4 (λe=>by have h:=N0.hc;rw[<-e,N.hx]at h;cases h)];exact N.hx⟩
theorem SysI.fin(S:SysI H procs p txns X ks (l.map (qc p txns txns.length)) (txns.map oe) (zt p txns) (qk8 p txns)) :
  ∃X',SysH H.length procs p txns X' (H.length+2) (H.length+3) (H.length+1) (H.length+4) ks (vt p txns l)/\(∀j,j<H.length->X'[j]?=H[j]?)/\∀E,Wk E ⟨[],X⟩ ⟨[],X'⟩:=by
 have hb:=S.big;obtain⟨cs,md⟩:∃cs,syI procs p txns H.length (.own (H.length+5) (txns.map oe).length) (.own (H.length+6) (zt p txns).length) (.own (H.length+7) (qk8 p txns).length) (.own (H.length+3) ks.length) (.own (H.length+4) 0)=cs:=⟨_,rfl⟩
 have h0:=S.hs;rw[md]at h0;have w1:∀E,Wk E ⟨[],X⟩ ⟨[],X.set (H.length+2) (.cells (cs.set 4 (.slice ((txns.map oe).map Foot.c))))⟩:=λE=>by
  have:=qzn E ⟨[],X⟩ (p:=H.length+2) (j:=4) (xs:=cs) (x:=.own (H.length+5) (txns.map oe).length) h0 af;simpa[AV.norm,S.hf]using this
 obtain⟨X1,hX1⟩:∃X1,X.set (H.length+2) (.cells (cs.set 4 (.slice ((txns.map oe).map Foot.c))))=X1:=⟨_,rfl⟩
 have o1:∀j,j≠H.length+2->X1[j]?=X[j]?:=λj hj=>by rw[<-hX1,ct (Ne.symm hj)]
 have c1:X1[H.length+2]?=some (.cells (cs.set 4 (.slice ((txns.map oe).map Foot.c)))):=af;have w2:∀E,Wk E ⟨[],X1⟩ ⟨[],X1.set (H.length+2) (.cells ((cs.set 4 (.slice ((txns.map oe).map Foot.c))).set 5 (.slice ((zt p txns).map iR))))⟩:=λE=>by
  have:=qzn E ⟨[],X1⟩ (p:=H.length+2) (j:=5) (xs:=cs.set 4 (.slice ((txns.map oe).map Foot.c))) (x:=.own (H.length+6) (zt p txns).length) c1 af;simpa[AV.norm,o1,S.hpa]using this
 obtain⟨X2,hX2⟩:∃X2,X1.set (H.length+2) (.cells ((cs.set 4 (.slice ((txns.map oe).map Foot.c))).set 5 (.slice ((zt p txns).map iR))))=X2:=⟨_,rfl⟩
 have yb:X1.length=X.length:=af;have o2:∀j,j≠H.length+2->X2[j]?=X[j]?:=λj hj=>by rw[<-hX2,ct (Ne.symm hj),o1 j hj]
 have c2:X2[H.length+2]?=some (.cells ((cs.set 4 (.slice ((txns.map oe).map Foot.c))).set 5 (.slice ((zt p txns).map iR)))):=af;have w3:∀E,Wk E ⟨[],X2⟩ ⟨[],X2.set (H.length+2) (.cells (((cs.set 4 (.slice ((txns.map oe).map Foot.c))).set 5 (.slice ((zt p txns).map iR))).set 6 (.slice ((qk8 p txns).map iR))))⟩:=λE=>by
  have:=qzn E ⟨[],X2⟩ (p:=H.length+2) (j:=6) (xs:=(cs.set 4 (.slice ((txns.map oe).map Foot.c))).set 5 (.slice ((zt p txns).map iR))) (x:=.own (H.length+7) (qk8 p txns).length) c2 af;simpa[AV.norm,o2,S.hx]using this
 obtain⟨X3,hX3⟩:∃X3,X2.set (H.length+2) (.cells (((cs.set 4 (.slice ((txns.map oe).map Foot.c))).set 5 (.slice ((zt p txns).map iR))).set 6 (.slice ((qk8 p txns).map iR))))=X3:=⟨_,rfl⟩
 have hl2:X2.length=X.length:=af;have o3:∀j,j≠H.length+2->X3[j]?=X[j]?:=λj hj=>by rw[<-hX3,ct (Ne.symm hj),o2 j hj]
 rw[hX1]at w1;rw[hX2]at w2;rw[hX3]at w3;refine⟨X3,?_,λj hj=>by rw[o3 _ aa];exact S.old j hj,λE=>((w1 E).trans (w2 E)).trans (w3 E)⟩;have hkl:ks.length=(vt p txns l).nds.length:=by rw[S.len];simp[vt]
 refine { ho:=?_,hq:=by rw[o3 _ aa];exact S.hq,he:=?_,ht:=by rw[o3 _ aa];exact S.ht,len:=hkl,nd:=λi k x hk hx=>?_,sep:=S.sep,lo:=⟨aa,aa,aa,aa⟩,lk:=λk hk=>by have:=S.lk k hk;exact⟨aa,aa,aa,aa⟩ }
 .rw[<-hX3,du aa,<-md];simp only[syI,qj8,List.set_cons_zero,hkl,qi3];simp[vt,syC,Function.comp_def]
 .rw[o3 _ aa,S.he];simp[vt]
 .have N:=S.nd i k x hk hx;obtain⟨k1,k2,k3,k4⟩:=S.lk k (cv hk);exact⟨by rw[o3 _ aa];exact N.hc,by rw[o3 _ aa];exact N.hi,by rw[o3 _ aa];exact N.hs,by rw[o3 _ aa];exact N.hx⟩
end
end
end Go.Proofs.YtolejdhnnchfpaaGreatDoor
