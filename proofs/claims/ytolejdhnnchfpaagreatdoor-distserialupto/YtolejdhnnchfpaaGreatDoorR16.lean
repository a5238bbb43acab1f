/- Part 16 of a proof. -/
import Derived.Shelf.Slices.Delete
import Derived.Test.YtolejdhnnchfpaaGreatDoorR14
import Derived.Test.YtolejdhnnchfpaaGreatDoorR15
set_option linter.all false
set_option maxRecDepth 100000
set_option maxHeartbeats 4000000
namespace Go.Proofs.YtolejdhnnchfpaaGreatDoor
open Go Go.Abs Go.Cw Go.Proofs.Tryz
section
def Zc(x:Proc)(h:mz)(i:Nat)(t:Txn)(hi:h[i]?=some (.cells t.c)):ACalls prog 173 [.agg x.c,.ptr i 0] h λr Y=>r=.ret (Bo (decide (x.name=t.proc)))/\Y=h:=by
 refine s8 func173 ntmps173 λE B hh Q hb nl qb=>?_;have qj:i<h.length:=(gn.1 hi).1;have a1:∀l,(h++l)[i]?=some (.cells t.c):=λl=>by rw[gu qj];exact hi
 simp-dsimp[go_sem,B,a1,Q,Txn.c];exact Qfi
def qoe(l:List Proc)(f:FuncId)(pk:List V)(q:Proc->Bool)(h:mz)(mU:qu h pk=pk)(hp:∀x:Proc,ACalls prog f ([.agg x.c]++pk) h λr Y=>r=.ret (Bo (q x))/\Y=h) :
  ACalls prog 172 [.slice (l.map Proc.c),.fn (.func f) [] pk] h λr Y=>r=.ret (I (ul q l))/\Y=h:=by
 refine cD func172 ntmps172 λE B hh Q hb nl qb=>?_;refine M ?_;refine po l.length (λn=>vy q n (l.drop n)=ul q l) (λn=>⟨[(0,.slice (l.map Proc.c)),(1,.fn (.func f) [] pk),(7,I l.length),(8,I n)],h⟩) e6 (Wk.mk bb Z ee bh) ?_;intro n hn z;have hw:=oi hn hb.1;refine nf (λhc=>?_) (λhc=>?_)
 .rw[ov hc,vy]at z;simp-dsimp[go_sem,B,hc,mU];refine se (hp l[n]) ?_;rintro r Y ⟨rfl,rfl⟩;refine M ?_;refine og ?_ ?_<;>intro hg<;>try simp at hg
  .exact Qep
  exact Qeq
 exact Qer
theorem Py{α:Type}(q:α->Bool):∀(l:List α) (n:Nat),(vy q n l = -1/\l.find? q=none)\/∃(m:Nat) (hm:m<l.length),vy q n l=((n+m:Nat):Int)/\l.find? q=some l[m]
 | [],n=>.inl ⟨by rw[vy],rfl⟩
 |x::l,n=>by
  rw[vy];by_cases h:q x=true
  .right;exact⟨0,Z,cn,cn⟩
  rw[gg h];rcases Py q l (n+1)with⟨O,U⟩|⟨m,hm,O,U⟩
  .grind
  refine .inr ⟨m+1,au,?_,?_⟩
  .omega
  grind
def XJ{α:Type}(q:α->Bool)(l:List α):(ul q l = -1/\l.find? q=none)\/∃(m:Nat) (hm:m<l.length),ul q l=(m:Int)/\l.find? q=some l[m]:=by grind[ul,Py]
def BN:Proc:=⟨em,[],[]⟩
def qoq(nb:List Proc)(t:Txn):APure prog 144 [.slice (nb.map Proc.c),.agg t.c] (.tuple [.agg ((lB nb t).getD BN).c,Bo (lB nb t).isSome]):=by
 refine ry func144 ntmps144 λE h B hh Q hb=>?_;obtain⟨R,hR⟩:=Qaj (lB nb t)
 rw[hR];unfold lB Ax at hR;refine M ?_;refine o7 (qoe nb _ _ (λx=>decide (x.name=t.proc)) _ eg (λx=>Zc x _ _ t (by simp[Txn.c]))) ?_;rcases XJ (λx:Proc=>decide (x.name=t.proc)) nb with⟨O,U⟩|⟨m,hm,O,U⟩
 .rw[U]at hR;simp only at hR;subst hR;rw[O];refine M ?_;refine pf 9 (M ?_);refine BP ?_;simp-dsimp[go_sem,B,BN]
 rw[U]at hR;simp only at hR;rw[O];refine M ?_;refine pf 9 ?_;simp-dsimp[go_sem,B,hm,Txn.c];refine pz (Qb nb[m] t.args) Z ?_;refine nf (λh3=>?_) (λh3=>?_)
 .rw[gg J]at hR;subst hR;simp-dsimp[go_sem,B,BN]
 rw[gh J]at hR;subst hR;simp-dsimp[go_sem,B,hm]
variable {tT:TypeId} {tx:Nat×Nat} {g:Nat}
def qrc(nb:List Proc)(s:List Pr)(t:Txn)(h:mz)(hg:h[g]?=some (fZ tT tx))(z:∀p,lB nb t=some p->RunIn pw p t.args s)(hL:s.length<=60000000000) :
  ACalls prog 102 [.slice (nb.map Proc.c),.slice (s.map Pr.c),.agg t.c] h λr Y=>r=.ret (.tuple [.slice ((vx pw nb s t).1.map Pr.c),.agg (vx pw nb s t).2.c])/\Y=h:=by
 refine s8 func102 ntmps102 λE B hh Q hb nl qb=>?_;have rU:g<h.length:=(gn.1 hg).1;have pa:∀l:mz,(h++l)[g]?=some (fZ tT tx):=λl=>by rw[gu rU];exact hg
 simp[go_sem]at hb;obtain⟨R,hR⟩:=Qaj (vx pw nb s t)
 rw[hR];unfold vx at hR;simp-dsimp[go_sem,B,Txn.c];refine nc (qoq nb t) ?_;rcases hF:lB nb t with _|p
 .rw[hF]at hR;simp only at hR;subst hR;simp-dsimp[go_sem,B,BN];refine nc (La s) ?_;simp-dsimp[go_sem,B,bI];exact Qgz
 rw[hF]at hR;simp only at hR;have Bk:=z p hF;have tg:=λh=>JN (fmt:=pw) (p:=p) (args:=t.args) (s:=s) (ft:=t.ft) h;have sq:=λh=>(EG (ft:=t.ft) Bk h).2.2;have hlw:=FN (ft:=t.ft) Bk;have lK:=λH hH=>qr2 (g:=g) (tT:=tT) (tx:=tx) p t.args s t.ft H hH Bk;obtain⟨e,he⟩:=Qaj (un pw p t.args s t.ft)
 rw[he]at hR tg sq hlw;simp only[he]at lK;refine M ?_;refine o7 (lK _ (pa _)) ?_;refine nf (λL=>?_) (λL=>?_)
 .rw[gh L]at hR;subst hR;have hA:=Oe s e.writes J;rw[tg L,sq L]at hA;simp only[Bool.and_self,iz]at hA;refine M ?_;refine nc hA (M ?_);refine pf 3 (M ?_);exact Qgz
 rw[gg L]at hR;subst hR;refine M ?_;refine pf 4 (M ?_);refine p7 (La s) Z (M ?_);exact Qgz
end
section
variable {nb:List Proc} {p:Plc} {A:List Txn} {H H':mz} {l:List Shard}
theorem XS:mL (.pointer none)=.val (.pointer none):=rfl
def wq(p:Plc)(A:List Txn)(m:Nat)(x:Shard):Nd:=⟨x.node,x.prs,zm p A x.node m,[],List.replicate A.length false,List.replicate A.length false⟩
abbrev nU(nb:List Proc)(p:Plc)(A:List Txn)(h0:Nat)(a4 a5 a6 a7 a8:V):List V :=
 [.slice (nb.map Proc.c),I p.ver,.slice (p.parts.map Part.c),.slice (A.map Txn.c),a4,a5,a6,a7,a8,.own (h0+1) A.length]
structure SysI(H:mz)(nb:List Proc)(p:Plc)(A:List Txn)(X:mz)(ks:List NK)(nds:List Nd)(Fs:List Foot)(Ps Es:List (List Int)):Prop where
 hp:X[H.length]?=some (.cells [I p.ver,.slice (p.parts.map Part.c)])
 he:X[H.length+1]?=some (.uarr 82 8 (List.replicate A.length Cw.effZ.c))
 hs:X[H.length+2]?=some (.cells (nU nb p A H.length (.own (H.length+5) Fs.length) (.own (H.length+6) Ps.length) (.own (H.length+7) Es.length) (.own (H.length+3) ks.length) (.own (H.length+4) 0)))
 hq:X[H.length+3]?=some (.oarr 97 1 (ks.map λk=>[.ptr k.c 0]))
 ht:X[H.length+4]?=some (.uarr 162 5 [])
 hf:X[H.length+5]?=some (.arr 76 3 (Fs.map Foot.c))
 hpa:X[H.length+6]?=some (.arr 34 1 (Ps.map iR))
 hx:X[H.length+7]?=some (.arr 34 1 (Es.map iR))
 len:ks.length=nds.length
 nd:∀(i:Nat) (k:NK) (x:Nd),ks[i]?=some k->nds[i]?=some x->NdH X k x
 sep:∀(i j:Nat) (a b:NK),ks[i]?=some a->ks[j]?=some b->(i≠j->a.c≠b.c/\a.ib≠b.ib/\a.sd≠b.sd/\a.xd≠b.xd)/\a.sd≠b.xd
 lk:∀k∈ks,H.length+8<=k.c/\H.length+8<=k.ib/\H.length+8<=k.sd/\H.length+8<=k.xd
 und:hUnder X.length X=true
 big:H.length+8<=X.length
 old:∀j,j<H.length->X[j]?=H[j]?
section
variable {X X':mz} {ks:List NK} {nds:List Nd} {Fs:List Foot} {Ps Es:List (List Int)}
def SysI.ndLt(my:SysI H nb p A X ks nds Fs Ps Es){k:NK}(h:k∈ks):k.c<X.length/\k.ib<X.length/\k.sd<X.length/\k.xd<X.length:=by
 obtain⟨i,hi⟩:=iw h;have hl:i<nds.length:=by rw[<-my.len];exact(gn.1 hi).1
 exact(my.nd i k nds[i] hi (ii hl)).lt
def SysI.cols(my:SysI H nb p A X ks nds Fs Ps Es){Fs':List Foot}{Ps' Es':List (List Int)}(hs:X'[H.length+2]?=some (.cells (nU nb p A H.length (.own (H.length+5) Fs'.length) (.own (H.length+6) Ps'.length) (.own (H.length+7) Es'.length) (.own (H.length+3) ks.length) (.own (H.length+4) 0))))
  (hf:X'[H.length+5]?=some (.arr 76 3 (Fs'.map Foot.c))) (hpa:X'[H.length+6]?=some (.arr 34 1 (Ps'.map iR))) (hx:X'[H.length+7]?=some (.arr 34 1 (Es'.map iR)))
  (qx:∀j,j<X.length->j≠H.length+2->j≠H.length+5->j≠H.length+6->j≠H.length+7->X'[j]?=X[j]?) (hl:X.length<=X'.length) (Q:hUnder X'.length X'=true):SysI H nb p A X' ks nds Fs' Ps' Es':=by
 have hb:=my.big;refine { hp:=by rw[qx _ J J J J J];exact my.hp,he:=by rw[qx _ J J J J J];exact my.he,hs:=hs,hq:=by rw[qx _ J J J J J];exact my.hq,ht:=by rw[qx _ J J J J J];exact my.ht,hf:=hf,hpa:=hpa,hx:=hx,len:=my.len,nd:=λi k x hk hx=>?_,sep:=my.sep,lk:=my.lk,und:=Q,big:=by omega,old:=λj hj=>by rw[qx _ J J J J J];exact my.old j hj };have N:=my.nd i k x hk hx;obtain⟨m1,m2,m3,m4⟩:=N.lt;obtain⟨k1,k2,k3,k4⟩:=my.lk k (gw hk);exact⟨by rw[qx _ m1 J J J J];exact N.hc,by rw[qx _ m2 J J J J];exact N.hi,by rw[qx _ m3 J J J J];exact N.hs,by rw[qx _ m4 J J J J];exact N.hx⟩
theorem SysI.add(my:SysI H nb p A X ks nds Fs Ps Es){k:NK}{x:Nd}(hs:X'[H.length+2]?=some (.cells (nU nb p A H.length (.own (H.length+5) Fs.length) (.own (H.length+6) Ps.length) (.own (H.length+7) Es.length) (.own (H.length+3) (ks.length+1)) (.own (H.length+4) 0))))
  (hq:X'[H.length+3]?=some (.oarr 97 1 ((ks.map λk=>[.ptr k.c 0])++[[.ptr k.c 0]]))) (hn:NdH X' k x) (hk:X.length<=k.c/\X.length<=k.ib/\X.length<=k.sd/\X.length<=k.xd) (hsx:k.sd≠k.xd)
  (qx:∀j,j<X.length->j≠H.length+2->j≠H.length+3->X'[j]?=X[j]?) (hl:X.length<=X'.length) (Q:hUnder X'.length X'=true):SysI H nb p A X' (ks++[k]) (nds++[x]) Fs Ps Es:=by
 have hb:=my.big;refine { hp:=by rw[qx _ J J J];exact my.hp,he:=by rw[qx _ J J J];exact my.he,hs:=by simpa using hs,hq:=by simpa using hq,ht:=by rw[qx _ J J J];exact my.ht,hf:=by rw[qx _ J J J];exact my.hf,hpa:=by rw[qx _ J J J];exact my.hpa,hx:=by rw[qx _ J J J];exact my.hx,len:=by simp[my.len],nd:=λi a y ha hy=>?_,sep:=λi j a b ha nl=>?_,lk:=λa ha=>?_,und:=Q,big:=by omega,old:=λj hj=>by rw[qx _ J J J];exact my.old j hj }
 .rcases ve ha with ha|⟨rfl,rfl⟩
  .have tq:=(gn.1 ha).1;rw[gu (by rw[<-my.len];exact tq)]at hy;have N:=my.nd i a y ha hy;obtain⟨m1,m2,m3,m4⟩:=N.lt;obtain⟨k1,k2,k3,k4⟩:=my.lk a (gw ha);exact⟨by rw[qx _ m1 J J];exact N.hc,by rw[qx _ m2 J J];exact N.hi,by rw[qx _ m3 J J];exact N.hs,by rw[qx _ m4 J J];exact N.hx⟩
  rw[my.len,gz (gj _),kh]at hy;grind
 .rcases ve ha with ha|⟨rfl,rfl⟩<;>rcases ve nl with nl|⟨rfl,rfl⟩
  .exact my.sep i j a b ha nl
  .have:=my.ndLt (gw ‹ks[i]?=some a›);omega
  .have:=my.ndLt (gw nl);omega
  omega
 rcases jj.1 ha with ha|ha
 .exact my.lk a ha
 grind
def SysI.upN(my:SysI H nb p A X ks nds Fs Ps Es){i:Nat}{k:NK}{x:Nd}(hk:ks[i]?=some k){T:LT}(hx:nds[i]?=some x)
  (qx:∀j,j<X.length->j≠k.c->X'[j]?=X[j]?) (hc:X'[k.c]?=some (.cells (wP ⟨x.node,x.prs,T,x.inbox,x.sent,x.exd⟩ k))) (hl:X.length<=X'.length) (Q:hUnder X'.length X'=true):SysI H nb p A X' ks (nds.set i ⟨x.node,x.prs,T,x.inbox,x.sent,x.exd⟩) Fs Ps Es:=by
 have hb:=my.big;obtain⟨k1,k2,k3,k4⟩:=my.lk k (gw hk);have N0:=my.nd i k x hk hx;refine { hp:=by rw[qx _ J J];exact my.hp,he:=by rw[qx _ J J];exact my.he,hs:=by rw[qx _ J J];exact my.hs,hq:=by rw[qx _ J J];exact my.hq,ht:=by rw[qx _ J J];exact my.ht,hf:=by rw[qx _ J J];exact my.hf,hpa:=by rw[qx _ J J];exact my.hpa,hx:=by rw[qx _ J J];exact my.hx,len:=by simp[my.len],nd:=λj a y ha hy=>?_,sep:=my.sep,lk:=my.lk,und:=Q,big:=by omega,old:=λj hj=>by rw[qx _ J J];exact my.old j hj };by_cases e:j=i
 .subst e;rw[hk]at ha;cases ha;rw[ji (gn.1 hx).1]at hy;cases hy;obtain⟨m1,m2,m3,m4⟩:=N0.lt;exact⟨hc,by rw[qx _ m2 (λe=>by have h:=N0.hc;rw[<-e,N0.hi]at h;cases h)];exact N0.hi,by rw[qx _ m3 (λe=>by have h:=N0.hc;rw[<-e,N0.hs]at h;cases h)];exact N0.hs,by rw[qx _ m4 (λe=>by have h:=N0.hc;rw[<-e,N0.hx]at h;cases h)];exact N0.hx⟩
 rw[gv (Ne.symm e)]at hy;have N:=my.nd j a y ha hy;obtain⟨m1,m2,m3,m4⟩:=N.lt;have hs:=(my.sep j i a k ha hk).1 e;exact⟨by rw[qx _ m1 hs.1];exact N.hc,by rw[qx _ m2 (λe=>by have h:=N0.hc;rw[<-e,N.hi]at h;cases h)];exact N.hi,by rw[qx _ m3 (λe=>by have h:=N0.hc;rw[<-e,N.hs]at h;cases h)];exact N.hs,by rw[qx _ m4 (λe=>by have h:=N0.hc;rw[<-e,N.hx]at h;cases h)];exact N.hx⟩
def SysI.fin(my:SysI H nb p A X ks (l.map (wq p A A.length)) (A.map uw) (gZ p A) (jY p A)) :
  ∃X',SysH H.length nb p A X' (H.length+2) (H.length+3) (H.length+1) (H.length+4) ks (cW p A l)/\(∀j,j<H.length->X'[j]?=H[j]?)/\∀E,Wk E ⟨[],X⟩ ⟨[],X'⟩:=by
 have hb:=my.big;obtain⟨cs,su⟩:=Qaj (nU nb p A H.length (.own (H.length+5) (A.map uw).length) (.own (H.length+6) (gZ p A).length) (.own (H.length+7) (jY p A).length) (.own (H.length+3) ks.length) (.own (H.length+4) 0))
 have L:=my.hs;rw[su]at L;have w1:∀E,Wk E ⟨[],X⟩ ⟨[],X.set (H.length+2) (.cells (cs.set 4 (.slice ((A.map uw).map Foot.c))))⟩:=λE=>by have:=Da E ⟨[],X⟩ (p:=H.length+2) (j:=4) (xs:=cs) (x:=.own (H.length+5) (A.map uw).length) L W;simpa[V.norm,my.hf]using this
 obtain⟨X1,qJ⟩:=Qaj (X.set (H.length+2) (.cells (cs.set 4 (.slice ((A.map uw).map Foot.c)))))
 have o1:∀j,j≠H.length+2->X1[j]?=X[j]?:=λj hj=>by rw[<-qJ,gv (Ne.symm hj)]
 have c1:X1[H.length+2]?=some (.cells (cs.set 4 (.slice ((A.map uw).map Foot.c)))):=W;have w2:∀E,Wk E ⟨[],X1⟩ ⟨[],X1.set (H.length+2) (.cells ((cs.set 4 (.slice ((A.map uw).map Foot.c))).set 5 (.slice ((gZ p A).map iR))))⟩:=λE=>by have:=Da E ⟨[],X1⟩ (p:=H.length+2) (j:=5) (xs:=cs.set 4 (.slice ((A.map uw).map Foot.c))) (x:=.own (H.length+6) (gZ p A).length) c1 W;simpa[V.norm,o1,my.hpa]using this
 obtain⟨X2,hX2⟩:=Qaj (X1.set (H.length+2) (.cells ((cs.set 4 (.slice ((A.map uw).map Foot.c))).set 5 (.slice ((gZ p A).map iR)))))
 have aG:X1.length=X.length:=W;have o2:∀j,j≠H.length+2->X2[j]?=X[j]?:=λj hj=>by rw[<-hX2,gv (Ne.symm hj),o1 j hj]
 have c2:X2[H.length+2]?=some (.cells ((cs.set 4 (.slice ((A.map uw).map Foot.c))).set 5 (.slice ((gZ p A).map iR)))):=W;have w3:∀E,Wk E ⟨[],X2⟩ ⟨[],X2.set (H.length+2) (.cells (((cs.set 4 (.slice ((A.map uw).map Foot.c))).set 5 (.slice ((gZ p A).map iR))).set 6 (.slice ((jY p A).map iR))))⟩:=λE=>by have:=Da E ⟨[],X2⟩ (p:=H.length+2) (j:=6) (xs:=(cs.set 4 (.slice ((A.map uw).map Foot.c))).set 5 (.slice ((gZ p A).map iR))) (x:=.own (H.length+7) (jY p A).length) c2 W;simpa[V.norm,o2,my.hx]using this
 obtain⟨X3,hX3⟩:=Qaj (X2.set (H.length+2) (.cells (((cs.set 4 (.slice ((A.map uw).map Foot.c))).set 5 (.slice ((gZ p A).map iR))).set 6 (.slice ((jY p A).map iR)))))
 have lX:X2.length=X.length:=W;have o3:∀j,j≠H.length+2->X3[j]?=X[j]?:=λj hj=>by rw[<-hX3,gv (Ne.symm hj),o2 j hj]
 rw[qJ]at w1;rw[hX2]at w2;rw[hX3]at w3;refine⟨X3,?_,λj hj=>by rw[o3 _ J];exact my.old j hj,λE=>((w1 E).trans (w2 E)).trans (w3 E)⟩;have hkl:ks.length=(cW p A l).nds.length:=by rw[my.len];simp[cW]
 refine { ho:=?_,hq:=by rw[o3 _ J];exact my.hq,he:=?_,ht:=by rw[o3 _ J];exact my.ht,len:=hkl,nd:=λi k x hk hx=>?_,sep:=my.sep,lo:=⟨J,J,J,J⟩,lk:=λk hk=>by have:=my.lk k hk;exact⟨J,J,J,J⟩ }
 .rw[<-hX3,ji J,<-su];simp only[nU,List.set_cons_succ,List.set_cons_zero,hkl,qio];simp[cW,xG]
 .rw[o3 _ J,my.he];simp[cW]
 have N:=my.nd i k x hk hx;obtain⟨k1,k2,k3,k4⟩:=my.lk k (gw hk);exact⟨by rw[o3 _ J];exact N.hc,by rw[o3 _ J];exact N.hi,by rw[o3 _ J];exact N.hs,by rw[o3 _ J];exact N.hx⟩
end
end
section
variable {nb:List Proc} {p:Plc} {A:List Txn} {H H':mz} {l:List Shard}
theorem gT{X:Nat->Bool}{i:Nat}:(λj=>decide (j=i)||X j)=lO X i:=funext λj=>by unfold lO;by_cases h:j=i<;>simp[h]
def Wv(Q:hUnder H.length H=true):∃X,SysI H nb p A X [] [] [] [] [] /\
  ∀E t,Wk E ⟨t,H++[.cells [I p.ver,.slice (p.parts.map Part.c)],.uarr 82 8 (List.replicate A.length Cw.effZ.c),.cells (nU nb p A H.length .nils .nils .nils .nils .nils)]⟩ ⟨t,X⟩:=by
 obtain⟨mw,hA⟩:∃mw:AObj,mw=.cells [I p.ver,.slice (p.parts.map Part.c)]:=⟨_,rfl⟩
 obtain⟨F,hF⟩:∃F:AObj,F=.uarr 82 8 (List.replicate A.length Cw.effZ.c):=⟨_,rfl⟩
 obtain⟨K,hK⟩:∃K,K=nU nb p A H.length:=⟨_,rfl⟩
 rw[<-hA,<-hF,<-hK];have w1:∀E t,Wk E ⟨t,H++[mw,F,.cells (K .nils .nils .nils .nils .nils)]⟩ ⟨t,H++[mw,F,.cells (K .nils .nils .nils (.own (H.length+3) 0) .nils),.oarr 97 1 []]⟩:=λE t=>by
  have:=NA E ⟨t,H++[mw,F,.cells (K .nils .nils .nils .nils .nils)]⟩ (p:=H.length+2) (j:=7) (t:=97) (sz:=1) (xs:=K .nils .nils .nils .nils .nils) Z qih
  simp_all
 have w2:∀E t,Wk E ⟨t,H++[mw,F,.cells (K .nils .nils .nils (.own (H.length+3) 0) .nils),.oarr 97 1 []]⟩ ⟨t,H++[mw,F,.cells (K .nils .nils .nils (.own (H.length+3) 0) (.own (H.length+4) 0)),.oarr 97 1 [],.uarr 162 5 []]⟩:=λE t=>by
  have:=CW E ⟨t,H++[mw,F,.cells (K .nils .nils .nils (.own (H.length+3) 0) .nils),.oarr 97 1 []]⟩ (p:=H.length+2) (j:=8) (t:=162) (sz:=5) (xs:=K .nils .nils .nils (.own (H.length+3) 0) .nils) Z qih
  simp_all
 have w3:∀E t,Wk E ⟨t,H++[mw,F,.cells (K .nils .nils .nils (.own (H.length+3) 0) (.own (H.length+4) 0)),.oarr 97 1 [],.uarr 162 5 []]⟩ ⟨t,H++[mw,F,.cells (K (.own (H.length+5) 0) .nils .nils (.own (H.length+3) 0) (.own (H.length+4) 0)),.oarr 97 1 [],.uarr 162 5 [],.arr 76 3 []]⟩:=λE t=>by
  have:=pJ E ⟨t,H++[mw,F,.cells (K .nils .nils .nils (.own (H.length+3) 0) (.own (H.length+4) 0)),.oarr 97 1 [],.uarr 162 5 []]⟩ (p:=H.length+2) (j:=4) (t:=76) (sz:=3) (xs:=K .nils .nils .nils (.own (H.length+3) 0) (.own (H.length+4) 0)) Z W
  simp_all
 have w4:∀E t,Wk E ⟨t,H++[mw,F,.cells (K (.own (H.length+5) 0) .nils .nils (.own (H.length+3) 0) (.own (H.length+4) 0)),.oarr 97 1 [],.uarr 162 5 [],.arr 76 3 []]⟩ ⟨t,H++[mw,F,.cells (K (.own (H.length+5) 0) (.own (H.length+6) 0) .nils (.own (H.length+3) 0) (.own (H.length+4) 0)),.oarr 97 1 [],.uarr 162 5 [],.arr 76 3 [],.arr 34 1 []]⟩:=λE t=>by
  have:=pJ E ⟨t,H++[mw,F,.cells (K (.own (H.length+5) 0) .nils .nils (.own (H.length+3) 0) (.own (H.length+4) 0)),.oarr 97 1 [],.uarr 162 5 [],.arr 76 3 []]⟩ (p:=H.length+2) (j:=5) (t:=34) (sz:=1) (xs:=K (.own (H.length+5) 0) .nils .nils (.own (H.length+3) 0) (.own (H.length+4) 0)) Z W
  simp_all
 have w5:∀E t,Wk E ⟨t,H++[mw,F,.cells (K (.own (H.length+5) 0) (.own (H.length+6) 0) .nils (.own (H.length+3) 0) (.own (H.length+4) 0)),.oarr 97 1 [],.uarr 162 5 [],.arr 76 3 [],.arr 34 1 []]⟩ ⟨t,H++[mw,F,.cells (K (.own (H.length+5) 0) (.own (H.length+6) 0) (.own (H.length+7) 0) (.own (H.length+3) 0) (.own (H.length+4) 0)),.oarr 97 1 [],.uarr 162 5 [],.arr 76 3 [],.arr 34 1 [],.arr 34 1 []]⟩:=λE t=>by
  have:=pJ E ⟨t,H++[mw,F,.cells (K (.own (H.length+5) 0) (.own (H.length+6) 0) .nils (.own (H.length+3) 0) (.own (H.length+4) 0)),.oarr 97 1 [],.uarr 162 5 [],.arr 76 3 [],.arr 34 1 []]⟩ (p:=H.length+2) (j:=6) (t:=34) (sz:=1) (xs:=K (.own (H.length+5) 0) (.own (H.length+6) 0) .nils (.own (H.length+3) 0) (.own (H.length+4) 0)) Z W
  simp_all
 refine⟨_,?_,λE t=>((((w1 E t).trans (w2 E t)).trans (w3 E t)).trans (w4 E t)).trans (w5 E t)⟩;have hs:∀j,H.length+j - H.length=j:=λj=>by omega
 refine { hp:=by rw[gz J];simp[hA],he:=by rw[gz J,hs];simp[hF],hs:=by rw[gz J,hs];simp[hK],hq:=by rw[gz J,hs];simp,ht:=by rw[gz J,hs];simp,hf:=by rw[gz J,hs];simp,hpa:=by rw[gz J,hs];simp,hx:=by rw[gz J,hs];simp,len:=rfl,nd:=λi k x hk=>(by simp at hk),sep:=λi j a b ha=>(by simp at ha),lk:=λk hk=>(by cases hk),und:=?_,big:=by simp,old:=λj hj=>gu hj };simp only[it,jp,ju]
 simp_all[z8,hUnder,AObj.under,q9,V.under]
def qpl{X h:mz}{ks:List NK}{nds:List Nd}{x:Shard}{ia ib ic:Nat}(my:SysI H nb p A X ks nds [] [] [])(qx:∀j,j<X.length->j≠H.length+3->h[j]?=X[j]?)(hl:X.length<=h.length)(Q:hUnder h.length h=true)
  (hq:h[H.length+3]?=some (.oarr 97 1 ((ks.map λk=>[.ptr k.c 0])++[[.ptr ic 0]]))) (ha:X.length<=ia) (ha2:h[ia]?=some (.uarr 4 1 (List.replicate A.length rC))) (hb:X.length<=ib) (rh:h[ib]?=some (.uarr 4 1 (List.replicate A.length rC))) (sW:ia≠ib)
  (hc:X.length<=ic) (sq:h[ic]?=some (.cells [I x.node,.slice (x.prs.map Pr.c),.nils,.nils,.nils,.own ia A.length,.own ib A.length])) :
  ∃X' k,SysI H nb p A X' (ks++[k]) (nds++[wq p A 0 x]) [] [] []/\∀E t,Wk E ⟨t,h.set (H.length+2) (.cells (nU nb p A H.length (.own (H.length+5) 0) (.own (H.length+6) 0) (.own (H.length+7) 0) (.own (H.length+3) (ks.length+1)) (.own (H.length+4) 0)))⟩ ⟨t,X'⟩:=by
 have xA:=my.big;obtain⟨lia,_⟩:=gn.1 ha2;obtain⟨lib,_⟩:=gn.1 rh;obtain⟨lic,_⟩:=gn.1 sq;have nac:ic≠ia:=λe=>by rw[e,ha2]at sq;cases sq
 have nbc:ic≠ib:=λe=>by rw[e,rh]at sq;cases sq
 obtain⟨O,hh1⟩:=Qaj (h.set (H.length+2) (.cells (nU nb p A H.length (.own (H.length+5) 0) (.own (H.length+6) 0) (.own (H.length+7) 0) (.own (H.length+3) (ks.length+1)) (.own (H.length+4) 0))))
 rw[hh1];have l1:O.length=h.length:=by rw[<-hh1];simp
 have c1:O[ic]?=some (.cells [I x.node,.slice (x.prs.map Pr.c),.nils,.nils,.nils,.own ia A.length,.own ib A.length]):=by rw[<-hh1,gv J];exact sq
 have w1:∀E t,Wk E ⟨t,O⟩ ⟨t,O.set ic (.cells [I x.node,.slice (x.prs.map Pr.c),.slice [],.nils,.nils,.own ia A.length,.own ib A.length])⟩:=λE t=>by have:=Da E ⟨t,O⟩ (p:=ic) (j:=2) (x:=.nils) c1 rfl;grind[V.norm]
 obtain⟨U,hh2⟩:=Qaj (O.set ic (.cells [I x.node,.slice (x.prs.map Pr.c),.slice [],.nils,.nils,.own ia A.length,.own ib A.length]))
 have l2:U.length=h.length:=by rw[<-hh2];simp[l1]
 have c2:U[ic]?=some (.cells [I x.node,.slice (x.prs.map Pr.c),.slice [],.nils,.nils,.own ia A.length,.own ib A.length]):=by rw[<-hh2,ji J]
 have w2:∀E t,Wk E ⟨t,U⟩ ⟨t,U.set ic (.cells [I x.node,.slice (x.prs.map Pr.c),.slice [],.slice [],.nils,.own ia A.length,.own ib A.length])⟩:=λE t=>by have:=Da E ⟨t,U⟩ (p:=ic) (j:=3) (x:=.nils) c2 rfl;grind[V.norm]
 obtain⟨h3,hh3⟩:=Qaj (U.set ic (.cells [I x.node,.slice (x.prs.map Pr.c),.slice [],.slice [],.nils,.own ia A.length,.own ib A.length]))
 have l3:h3.length=h.length:=by rw[<-hh3];simp[l2]
 have c3:h3[ic]?=some (.cells [I x.node,.slice (x.prs.map Pr.c),.slice [],.slice [],.nils,.own ia A.length,.own ib A.length]):=by rw[<-hh3,ji J]
 have w3:∀E t,Wk E ⟨t,h3⟩ ⟨t,h3.set ic (.cells [I x.node,.slice (x.prs.map Pr.c),.slice [],.slice [],.own h.length 0,.own ia A.length,.own ib A.length])++[AObj.arr 162 5 []]⟩:=λE t=>by have:=pJ E ⟨t,h3⟩ (p:=ic) (j:=4) (t:=162) (sz:=5) c3 rfl;grind
 obtain⟨h4,hh4⟩:=Qaj (h3.set ic (.cells [I x.node,.slice (x.prs.map Pr.c),.slice [],.slice [],.own h.length 0,.own ia A.length,.own ib A.length]))
 have l4:h4.length=h.length:=by rw[<-hh4];simp[l3]
 have o4:∀j,j≠ic->h4[j]?=O[j]?:=λj hj=>by rw[<-hh4,gv (Ne.symm hj),<-hh3,gv (Ne.symm hj),<-hh2,gv (Ne.symm hj)]
 have o5:∀j,j<h.length->j≠ic->j≠H.length+2->(h4++[AObj.arr 162 5 []])[j]?=h[j]?:=λj hj s7 cY=>by grind
 rw[hh2]at w1;rw[hh3]at w2;rw[hh4]at w3;refine⟨h4++[AObj.arr 162 5 []],⟨ic,h.length,ia,ib⟩,?_,λE t=>((w1 E t).trans (w2 E t)).trans (w3 E t)⟩;refine my.add ?_ ?_ ?_ ⟨hc,hl,ha,hb⟩ sW (λj hj s7 cY=>?_) au ?_
 .rw[gu J,o4 _ J,<-hh1,ji J];rfl
 .rw[o5 _ J J J];exact hq
 .refine⟨?_,?_,?_,?_⟩
  .show(h4++_)[ic]?=_;grind[gu,ji,wq,zm]
  .show(h4++_)[h.length]?=_;grind[gz,wq]
  .rw[o5 _ lia (Ne.symm nac) J,ha2];simp[wq,rC,rS]
  rw[o5 _ lib (Ne.symm nbc) J,rh];simp[wq,rC,rS]
 .rw[o5 _ J J s7];grind
 simp only[it,lj,l4];have hu1:hUnder h.length O=true:=by rw[<-hh1];refine Go.Abs.wh Q ?_;exact Qex
 rw[xh];have hu4:hUnder (h.length+1) h4=true:=by
  rw[<-hh4,<-hh3,<-hh2,mq,mq];refine Go.Abs.wh ?_ ?_
  .have:=z8 (k:=1) (l:=[]) (by rw[l1];exact hu1:hUnder O.length O=true);rw[jv,l1]at this;rw[this];rfl
  exact Qex
 rw[hu4];rfl
def V8(hp:qw p=true)(n:Int){m:Nat}(hT:m<=1048576)(th:wn (sh p (pc A m)) n=true) :
  APure prog 57 [.agg (LT.c (zm p A n m)),I m,.agg (dN p A n m).c] (.tuple [.agg (LT.c (zm p A n (m+1))),I 0]):=by
 have pg:=K9 (A:=A) hp n m;obtain⟨z1,z2⟩:=KO (A:=A) hp n m;obtain⟨q1,q2⟩:=J2 pg z2;have hR:((List.range m).filter λt=>wn (sh p (pc A t)) n).Pairwise (· < ·):=List.pairwise_lt_range.filter _
 have hf:=Bx (A:=A) hp n m;obtain⟨_,_,_,_,k1,k2,_⟩:=Fb hf;have hv:=Iq pg hR λi _=>Bx hp _ i;have cV:=(Io pg m).1 Z;have ni:∀y∈(zm p A n m).glob,y.t<=(m:Int):=λy hy=>by rw[pg.glob]at hy;grind
 have h:=Uw (zm p A n m).glob (zm p A n m).qs m (dN p A n m) (128 * m) hv hf J cV (λj hj _=>ni _ (ij hj)) J q1 q2 J;have e:zm p A n (m+1)=⟨(zm p A n m).glob++[⟨(m:Int),(dN p A n m).all⟩],uV m (dN p A n m) (zm p A n m).qs⟩:=by grind[zm]
 simp_all
def T1(hp:qw p=true)(hl:l.length<=16)(hT:A.length<=1048576) :
  ACalls prog 30 [.slice (nb.map Proc.c),.agg p.c,.slice (l.map Shard.c),.slice (A.map Txn.c)] H λr Y=>r=.ret (.ptr (H.length+2) 0)/\∃ks,SysI H nb p A Y ks (l.map (wq p A A.length)) (A.map uw) (gZ p A) (jY p A):=by
 refine s8 func30 ntmps30 λE B hh Q hb nl qb=>?_;obtain⟨X0,S0,hW0⟩:=Wv (nb:=nb) (p:=p) (A:=A) Q;have hlX:H.length<=X0.length:=by have:=S0.big;omega
 simp-dsimp[go_sem,B,Plc.c,XS];refine W3 6 mixed ah (M ?_);refine⟨J,?_⟩;refine u4 (α:=mz×List NK) l.length (λn x=>SysI H nb p A x.1 x.2 ((l.take n).map (wq p A 0)) [] [] []) (λn x=>⟨[(3,.slice (A.map Txn.c)),(5,.ptr H.length 0),(9,.ptr (H.length+2) 0),(25,.slice (l.map Shard.c)),(26,I l.length),(27,I n)],x.1⟩) (X0,[]) W ((hW0 E _).trans (Wk.mk W (hwk.refl _) S0.und (by simp[go_sem];have:=S0.big;omega))) ?_;rintro n ⟨X,ks⟩ hn my;dsimp only at my|-;have hw:=oi hn J;refine nf (λhc=>?_) (λhc=>?_)
 .obtain⟨x,hx⟩:=Qaj (l[n])
  have s6:∃Y0,X++[AObj.cells [I x.node,.slice (x.prs.map Pr.c)]]=Y0:=⟨_,rfl⟩
  obtain⟨Y0,hY0⟩:=s6;have xA:=my.big;have hYl:Y0.length=X.length+1:=W;have hYo:∀j,j<X.length->Y0[j]?=X[j]?:=λj hj=>by rw[<-hY0];exact gu hj
  have hYc:Y0[X.length]?=some (.cells [I x.node,.slice (x.prs.map Pr.c)]):=W;have hYu:hUnder Y0.length Y0=true:=by rw[hYl,<-hY0,z8 my.und];simp[hUnder,AObj.under,V.under,q9]
  have qn:=La x.prs;have hkn:ks.length=n:=by have:=my.len;grind
  simp-dsimp[go_sem,B,hc,hx,Shard.c];rw[hY0];refine qp8 21 (λXs e=>∃ia ib ic,R5 Y0 (H.length+2) (H.length+3) ks.length X.length A.length x.node (.slice (x.prs.map Pr.c)) (.slice (A.map Txn.c)) [(3,.slice (A.map Txn.c)),(5,.ptr H.length 0),(9,.ptr (H.length+2) 0),(11,.ptr X.length 0),(25,.slice (l.map Shard.c)),(26,I l.length),(27,I n)] (ks.map λk=>[.ptr k.c 0]) Xs e ia ib ic) mixed ah ?_ ?_ ?_
  .refine⟨0,0,0,?_⟩;refine { base:=λy hy=>?_,val:=λ_ _ _ h=>di,d17:=λh=>di,d18:=λh=>di,d19:=λh=>di,d20:=λh=>di,ql:=by omega,pl:=rfl,old:=λ_ _ _=>rfl,len:=gj _,und:=hYu,q0:=λ_=>by rw[hYo _ J];exact my.hq,q1:=λh=>di,a:=λh=>di,b:=λh=>di,ab:=λh=>di,cc:=λh=>di };simp only[iq,qi0,or_false]at hy;rcases hy with rfl|rfl|rfl|rfl|rfl|rfl|rfl<;>exact⟨Z,rfl⟩
  .rintro Xs e' i oo ⟨ia,ib,ic,hR⟩ ho xg yx;have b3:oz e'.t 3=.slice (A.map Txn.c):=(hR.base (3,.slice (A.map Txn.c)) Z).2;have b9:oz e'.t 9=.ptr (H.length+2) 0:=(hR.base (9,.ptr (H.length+2) 0) Z).2;have b11:oz e'.t 11=.ptr X.length 0:=(hR.base (11,.ptr X.length 0) Z).2;have hoO:e'.h[H.length+2]?=some (.cells (nU nb p A H.length (.own (H.length+5) 0) (.own (H.length+6) 0) (.own (H.length+7) 0) (.own (H.length+3) ks.length) (.own (H.length+4) 0))):=by
    rw[hR.old _ J J,hYo _ J];exact my.hs
   have hoC:e'.h[X.length]?=some (.cells [I x.node,.slice (x.prs.map Pr.c)]):=by rw[hR.old _ J J];exact hYc
   have hi:i<21:=W;have su:i=0\/i=1\/i=2\/i=3\/i=4\/i=5\/i=6\/i=7\/i=8\/i=9\/i=10\/i=11\/i=12\/i=13\/i=14\/i=15\/i=16\/i=17\/i=18\/i=19\/i=20:=J;rcases su with rfl|rfl|rfl|rfl|rfl|rfl|rfl|rfl|rfl|rfl|rfl|rfl|rfl|rfl|rfl|rfl|rfl|rfl|rfl|rfl|rfl
   .simp at ho;subst ho;refine .inl ?_;simp-dsimp[go_sem,B,zx,xw,cO,b9];refine⟨ia,ib,ic,?_⟩;rw[gT];exact hR.quiet (i:=0) J rfl J J
   .simp at ho;subst ho;refine .inl ?_;simp-dsimp[go_sem,B,zx,xw,cO,b9];refine⟨ia,ib,ic,?_⟩;rw[gT];exact hR.quiet (i:=1) J rfl J J
   .simp at ho;subst ho;have x1:Xs 1=true:=yx ⟨1,.data⟩ Z rfl;have d1:oz e'.t 32=_:=hR.val 1 _ rfl x1;refine .inl ?_;simp-dsimp[go_sem,B,zx,xw,cO,d1];refine⟨ia,ib,ic,?_⟩;rw[gT];exact hR.quiet (i:=2) J rfl J J
   .simp at ho;subst ho;have x2:Xs 2=true:=yx ⟨2,.data⟩ Z rfl;have d2:oz e'.t 33=_:=hR.val 2 _ rfl x2;refine .inl ?_;simp-dsimp[go_sem,B,zx,xw,cO,d2];refine⟨ia,ib,ic,?_⟩;rw[gT];exact hR.quiet (i:=3) J rfl J J
   .simp at ho;subst ho;have x3:Xs 3=true:=yx ⟨3,.data⟩ Z rfl;have d3:oz e'.t 34=_:=hR.val 3 _ rfl x3;refine .inl ?_;simp-dsimp[go_sem,B,zx,xw,cO,d3,hoO];refine⟨ia,ib,ic,?_⟩;rw[gT];exact hR.quiet (i:=4) J rfl J J
   .simp at ho;subst ho;refine .inl ?_;simp-dsimp[go_sem,B,zx,xw,cO,b11];refine⟨ia,ib,ic,?_⟩;rw[gT];exact hR.quiet (i:=5) J rfl J J
   .simp at ho;subst ho;have x5:Xs 5=true:=yx ⟨5,.data⟩ Z rfl;have d5:oz e'.t 36=_:=hR.val 5 _ rfl x5;refine .inl ?_;simp-dsimp[go_sem,B,zx,xw,cO,d5,hoC];refine⟨ia,ib,ic,?_⟩;rw[gT];exact hR.quiet (i:=6) J rfl J J
   .simp at ho;subst ho;refine .inl ?_;simp-dsimp[go_sem,B,zx,xw,cO,b11];refine⟨ia,ib,ic,?_⟩;rw[gT];exact hR.quiet (i:=7) J rfl J J
   .simp at ho;subst ho;have x7:Xs 7=true:=yx ⟨7,.data⟩ Z rfl;have d7:oz e'.t 38=_:=hR.val 7 _ rfl x7;refine .inl ?_;simp-dsimp[go_sem,B,zx,xw,cO,d7,hoC];refine⟨ia,ib,ic,?_⟩;rw[gT];exact hR.quiet (i:=8) J rfl J J
   .simp at ho;subst ho;have x8:Xs 8=true:=yx ⟨8,.data⟩ Z rfl;have d8:oz e'.t 39=_:=hR.val 8 _ rfl x8;refine .inl ?_;simp-dsimp[go_sem,B,zx,xw,cO,d8];refine(qn e'.h).mono ?_;rintro r Y ⟨rfl,rfl⟩;refine⟨ia,ib,ic,?_⟩;rw[gT];exact hR.quiet (i:=9) J rfl J J
   .simp at ho;subst ho;have x6:Xs 6=true:=yx ⟨6,.data⟩ Z rfl;have d6:oz e'.t 37=_:=hR.val 6 _ rfl x6;have x9:Xs 9=true:=yx ⟨9,.data⟩ Z rfl;have d9:oz e'.t 40=_:=hR.val 9 _ rfl x9;refine .inl ?_;simp-dsimp[go_sem,B,zx,xw,cO,d6,d9];refine⟨ia,ib,ic,?_⟩;rw[gT];exact hR.quiet (i:=10) J rfl J J
   .simp at ho;subst ho;refine .inl ?_;simp-dsimp[go_sem,B,zx,xw,cO,b3];refine⟨ia,ib,ic,?_⟩;rw[gT];exact hR.quiet (i:=11) J rfl J J
   .simp at ho;subst ho;have x11:Xs 11=true:=yx ⟨11,.data⟩ Z rfl;have d11:oz e'.t 42=_:=hR.val 11 _ rfl x11;refine .inl ?_;simp-dsimp[go_sem,B,zx,xw,cO,d11];refine⟨ia,ib,ic,?_⟩;rw[gT];exact hR.quiet (i:=12) J rfl J J
   .simp at ho;subst ho;have x12:Xs 12=true:=yx ⟨12,.data⟩ Z rfl;have d12:oz e'.t 43=_:=hR.val 12 _ rfl x12;refine .inr ⟨44,102,4,.tmp 43,A.length,1,rC,⟨rfl,rfl,by simp[B],rfl,af,af,af,J,af,af,by simp[go_sem,rC,nM],by simp[go_sem,d12],by simp[go_sem,d12],J,?_⟩⟩;exact⟨e'.h.length,ib,ic,hR.mkA xg⟩
   .simp at ho;subst ho;refine .inl ?_;simp-dsimp[go_sem,B,zx,xw,cO,b3];refine⟨ia,ib,ic,?_⟩;rw[gT];exact hR.quiet (i:=14) J rfl J J
   .simp at ho;subst ho;have x14:Xs 14=true:=yx ⟨14,.data⟩ Z rfl;have d14:oz e'.t 45=_:=hR.val 14 _ rfl x14;refine .inl ?_;simp-dsimp[go_sem,B,zx,xw,cO,d14];refine⟨ia,ib,ic,?_⟩;rw[gT];exact hR.quiet (i:=15) J rfl J J
   .simp at ho;subst ho;have x15:Xs 15=true:=yx ⟨15,.data⟩ Z rfl;have d15:oz e'.t 46=_:=hR.val 15 _ rfl x15;refine .inr ⟨47,102,4,.tmp 46,A.length,1,rC,⟨rfl,rfl,by simp[B],rfl,af,af,af,J,af,af,by simp[go_sem,rC,nM],by simp[go_sem,d15],by simp[go_sem,d15],J,?_⟩⟩;exact⟨ia,e'.h.length,ic,hR.mkB xg⟩
   .simp at ho;subst ho;have x10:Xs 10=true:=yx ⟨10,.data⟩ Z rfl;have d10:oz e'.t 41=_:=hR.val 10 _ rfl x10;have x13:Xs 13=true:=yx ⟨13,.data⟩ Z rfl;have d13:oz e'.t 44=_:=hR.val 13 _ rfl x13;have x16:Xs 16=true:=yx ⟨16,.data⟩ Z rfl;have d16:oz e'.t 47=_:=hR.val 16 _ rfl x16;refine .inl ?_;simp-dsimp[go_sem,B,zx,xw,cO,d10,d13,d16];refine⟨ia,ib,ic,?_⟩;rw[gT];exact hR.quiet (i:=17) J rfl (λ_=>⟨x13,x16⟩) J
   .simp at ho;subst ho;have x17:Xs 17=true:=yx ⟨17,.data⟩ Z rfl;have d17:oz e'.t 48=_:=hR.val 17 _ rfl x17;refine .inl ?_;simp-dsimp[go_sem,B,zx,xw,cO,d17];refine⟨ia,ib,e'.h.length,?_⟩;rw[gT];exact hR.box xg x17
   .simp at ho;subst ho;have x18:Xs 18=true:=yx ⟨18,.data⟩ Z rfl;have d18:oz e'.t 49=_:=hR.val 18 _ rfl x18;refine .inl ?_;simp-dsimp[go_sem,B,zx,xw,cO,d18];refine⟨ia,ib,ic,?_⟩;rw[gT];exact hR.quiet (i:=19) J rfl J (λ_=>x18)
   simp at ho;subst ho;have x4:Xs 4=true:=yx ⟨4,.data⟩ Z rfl;have d4:oz e'.t 35=_:=hR.val 4 _ rfl x4;have x19:Xs 19=true:=yx ⟨19,.data⟩ Z rfl;have d19:oz e'.t 50=_:=hR.val 19 _ rfl x19;have hq0:=hR.q0 xg;refine .inl ?_;simp-dsimp[go_sem,B,zx,xw,cO,d4,d19,hq0];refine⟨J,ia,ib,ic,?_⟩;rw[gT];exact hR.app xg x19
  rintro X1 e' nz ⟨ia,ib,ic,hR⟩;have d0:oz e'.t 31=_:=hR.val 0 _ rfl (nz 0 J);have d20:oz e'.t 51=_:=hR.val 20 _ rfl (nz 20 J);have b27:oz e'.t 27=I n:=(hR.base (27,I n) Z).2;have hoO:e'.h[H.length+2]?=some (.cells (nU nb p A H.length (.own (H.length+5) 0) (.own (H.length+6) 0) (.own (H.length+7) 0) (.own (H.length+3) ks.length) (.own (H.length+4) 0))):=by rw[hR.old _ J J,hYo _ J];exact my.hs
  obtain⟨X2,k,S2,hW2⟩:=qpl my (h:=e'.h) (x:=x) (λj hj hq=>by rw[hR.old _ J hq];exact hYo j hj) (by have:=hR.len;omega) hR.und (hR.q1 (nz 20 J)) (by have:=(hR.a (nz 13 J)).1;omega) (hR.a (nz 13 J)).2 (by have:=(hR.b (nz 16 J)).1;omega) (hR.b (nz 16 J)).2 (hR.ab (nz 13 J) (nz 16 J)) (by have:=(hR.cc (nz 18 J)).1;omega) (hR.cc (nz 18 J)).2;simp-dsimp[go_sem,B,d0,d20,b27,hoO,hw];have b3:oz e'.t 3=.slice (A.map Txn.c):=(hR.base (3,.slice (A.map Txn.c)) Z).2;have b5:oz e'.t 5=.ptr H.length 0:=(hR.base (5,.ptr H.length 0) Z).2;have b9:oz e'.t 9=.ptr (H.length+2) 0:=(hR.base (9,.ptr (H.length+2) 0) Z).2;have b25:oz e'.t 25=.slice (l.map Shard.c):=(hR.base (25,.slice (l.map Shard.c)) Z).2;have b26:oz e'.t 26=I l.length:=(hR.base (26,I l.length) Z).2;have he2:(l.take (n+1)).map (wq p A 0)=(l.take n).map (wq p A 0)++[wq p A 0 x]:=cw;refine⟨hc,X2,?_,?_⟩
  .grind[ln]
  have:=S2.big;exact(hW2 E _).trans (Wk.mk W (hwk.refl _) S2.und (by simp[go_sem,b3,b5,b9,b25,b26];omega))
 have jG:n=l.length:=J;subst jG;rw[mj]at my;have xA:=my.big;refine M ?_;refine u4 (α:=mz) A.length (λm X=>SysI H nb p A X ks (l.map (wq p A m)) ((A.take m).map uw) ((A.take m).map λt=>sh p (uw t)) ((A.take m).map λt=>sj p (uw t))) (λm X=>⟨[(5,.ptr H.length 0),(9,.ptr (H.length+2) 0),(55,.slice (A.map Txn.c)),(56,I A.length),(57,I m)],X⟩) X W (Wk.mk W (hwk.refl _) my.und co) ?_;clear my xA X;rintro m X hm my;have hw:=oi hm J;have xA:=my.big;refine nf (λhc=>?_) (λhc=>?_)
 .obtain⟨t,ht⟩:=Qaj (A[m])
  have ug:=EY t.ft;simp-dsimp[go_sem,B,hc,ht,Txn.c];refine nc ug (M ?_);obtain⟨Y1,hY1⟩:=Qaj (X++[AObj.cells t.c,AObj.cells (uw t).c])
  have aG:Y1.length=X.length+2:=W;have hu1:hUnder Y1.length Y1=true:=by rw[aG,<-hY1,z8 my.und];simp[hUnder,AObj.under,V.under,q9,Txn.c,Foot.c]
  have si:∀j,j<X.length->Y1[j]?=X[j]?:=λj hj=>by rw[<-hY1];exact gu hj
  have tg:Y1[X.length+1]?=some (.cells (uw t).c):=W;have S1:SysI H nb p A Y1 ks (l.map (wq p A m)) ((A.take m).map uw) ((A.take m).map λt=>sh p (uw t)) ((A.take m).map λt=>sj p (uw t)) :=
   my.cols (by rw[si _ J];exact my.hs) (by rw[si _ J];exact my.hf) (by rw[si _ J];exact my.hpa) (by rw[si _ J];exact my.hx) (λj hj _ _ _ _=>si j hj) J hu1
  have hmin:min m A.length=m:=lx hm;refine og (λhg=>?mw) (λhg=>?hN)<;>simp at hg
  case' mw =>
   have hft:uw t=GB:=by simp_all[uw,lU]
   refine M ?_;refine AWp.wk (e1:=⟨[(5,.ptr H.length 0),(9,.ptr (H.length+2) 0),(12,I m),(14,.ptr (X.length+1) 0),(55,.slice (A.map Txn.c)),(56,I A.length),(57,I m)],Y1⟩) ((SM E _ (p:=X.length+1) (xs:=[Bo false,.nils,.nils]) Z).trans (Wk.mk W (by rw[<-hY1,hft];simp[List.set_append,qu,V.norm,Foot.c,GB,Txn.c,hwk.refl]) hu1 co)) ?_
  case' hN =>
   have hft:uw t=t.ft:=by simp_all[uw,lU]
   refine M ?_;refine AWp.wk (e1:=⟨[(5,.ptr H.length 0),(9,.ptr (H.length+2) 0),(12,I m),(14,.ptr (X.length+1) 0),(55,.slice (A.map Txn.c)),(56,I A.length),(57,I m)],Y1⟩) ((Wk.mk W (by rw[<-hY1,hft];exact hwk.refl _) hu1 co)) ?_
  all_goals
   clear hft hg;obtain⟨f,hf⟩:=Qaj (uw t)
   rw[hf]at tg;obtain⟨F0,jW⟩:=Qaj (((A.take m).map uw))
   obtain⟨F1,aB⟩:=Qaj (((A.take (m+1)).map uw))
   have lF0:F0.length=m:=W;have eF1:F1=F0++[f]:=cw;have lF1:F1.length=m+1:=W;obtain⟨P0,hP0⟩:∃P0,((A.take m).map λt=>sh p (uw t))=P0:=⟨_,rfl⟩
   obtain⟨P1,hP1⟩:∃P1,((A.take (m+1)).map λt=>sh p (uw t))=P1:=⟨_,rfl⟩
   have lP0:P0.length=m:=W;have eP1:P1=P0++[sh p f]:=cw;have lP1:P1.length=m+1:=W;obtain⟨E0,hE0⟩:∃E0,((A.take m).map λt=>sj p (uw t))=E0:=⟨_,rfl⟩
   obtain⟨E1,hE1⟩:∃E1,((A.take (m+1)).map λt=>sj p (uw t))=E1:=⟨_,rfl⟩
   have lE0:E0.length=m:=W;have eE1:E1=E0++[sj p f]:=cw;have lE1:E1.length=m+1:=W;rw[jW,hP0,hE0]at S1;have hY1s:=S1.hs;rw[lF0,lP0,lE0]at hY1s;have hY1f:=S1.hf;have qd:=S1.big;have aA:∀ac,(Y1.set (H.length+5) ac)[H.length+2]?=Y1[H.length+2]?:=λac=>gv J;refine xQ 8 7 [0] mixed ah ?_;simp-dsimp[go_sem,B,hY1s,hY1f,aA,tg,lF0];refine⟨J,?_⟩;obtain⟨Y2,hY2⟩:=Qaj ((Y1.set (H.length+5) (.arr 76 3 (F1.map Foot.c))).set (H.length+2) (.cells (nU nb p A H.length (.own (H.length+5) (m+1)) (.own (H.length+6) (m)) (.own (H.length+7) (m)) (.own (H.length+3) ks.length) (.own (H.length+4) 0))))
   have lX:Y2.length=X.length+2:=W;have pQ:∀j,j≠H.length+2->j≠H.length+5->Y2[j]?=Y1[j]?:=λj O U=>by rw[<-hY2,gv (Ne.symm O),gv (Ne.symm U)]
   have hu2:hUnder Y2.length Y2=true:=by rw[<-hY2];simp only[mr];refine Go.Abs.wh (Go.Abs.wh S1.und rfl) ?_;exact Qex
   have S2:SysI H nb p A Y2 ks (l.map (wq p A m)) F1 P0 E0:=S1.cols W
    W (by rw[pQ _ J J];exact S1.hpa) (by rw[pQ _ J J];exact S1.hx) (λj hj O U h3 h4=>pQ j O J) J hu2
   have sq:Y2[X.length+1]?=some (.cells f.c):=W;obtain⟨Y3,hY3⟩:=Qaj ((Y2.set (H.length+6) (.arr 34 1 (P1.map iR))).set (H.length+2) (.cells (nU nb p A H.length (.own (H.length+5) (m+1)) (.own (H.length+6) (m+1)) (.own (H.length+7) (m)) (.own (H.length+3) ks.length) (.own (H.length+4) 0))))
   have hl3:Y3.length=X.length+2:=W;have qH:∀j,j≠H.length+2->j≠H.length+6->Y3[j]?=Y2[j]?:=λj O U=>by rw[<-hY3,gv (Ne.symm O),gv (Ne.symm U)]
   have hu3:hUnder Y3.length Y3=true:=by rw[<-hY3];simp only[mr];refine Go.Abs.wh (Go.Abs.wh S2.und rfl) ?_;exact Qex
   have S3:SysI H nb p A Y3 ks (l.map (wq p A m)) F1 P1 E0:=S2.cols W
    W W (by rw[qH _ J J];exact S2.hx) (λj hj O U h3 h4=>qH j O J) J hu3
   have sD:Y3[X.length+1]?=some (.cells f.c):=by rw[qH _ J J];exact sq
   obtain⟨Y4,hY4⟩:=Qaj ((Y3.set (H.length+7) (.arr 34 1 (E1.map iR))).set (H.length+2) (.cells (nU nb p A H.length (.own (H.length+5) (m+1)) (.own (H.length+6) (m+1)) (.own (H.length+7) (m+1)) (.own (H.length+3) ks.length) (.own (H.length+4) 0))))
   have hl4:Y4.length=X.length+2:=W;have ho4:∀j,j≠H.length+2->j≠H.length+7->Y4[j]?=Y3[j]?:=λj O U=>by rw[<-hY4,gv (Ne.symm O),gv (Ne.symm U)]
   have hu4:hUnder Y4.length Y4=true:=by rw[<-hY4];simp only[mr];refine Go.Abs.wh (Go.Abs.wh S3.und rfl) ?_;exact Qex
   have S4:SysI H nb p A Y4 ks (l.map (wq p A m)) F1 P1 E1:=S3.cols W
    W W W (λj hj O U h3 h4=>ho4 j O J) J hu4
   have hc4:Y4[X.length+1]?=some (.cells f.c):=by rw[ho4 _ J J];exact sD
   refine AWp.wk (e1:=⟨[(5,.ptr H.length 0),(9,.ptr (H.length+2) 0),(12,I m),(14,.ptr (X.length+1) 0),(55,.slice (A.map Txn.c)),(56,I A.length),(57,I m)],Y2⟩) ((Wk.mk W (by rw[<-hY2,eF1];simp only[jr];exact hwk.refl _) hu2 co)) ?_;have hY2s:=S2.hs;have hY2f:=S2.hpa;have hY2p:=S2.hp;rw[lF1,lP0,lE0]at hY2s;have zy:∀ac,(Y2.set (H.length+6) ac)[H.length+2]?=Y2[H.length+2]?:=λac=>gv J;refine xQ 10 9 [0] mixed ah ?_;simp-dsimp[go_sem,B,hY2s,hY2f,hY2p,zy,sq,lP0];refine p7 (F3 p f) Z ?_;simp-dsimp[go_sem,B,hY2s,hY2f,hY2p,zy,sq,lP0];refine⟨J,?_⟩;refine AWp.wk (e1:=⟨[(5,.ptr H.length 0),(9,.ptr (H.length+2) 0),(12,I m),(14,.ptr (X.length+1) 0),(55,.slice (A.map Txn.c)),(56,I A.length),(57,I m)],Y3⟩) ((Wk.mk W cy hu3 co)) ?_;have hY3s:=S3.hs;have hY3f:=S3.hx;have hY3p:=S3.hp;rw[lF1,lP1,lE0]at hY3s;have nE:∀ac,(Y3.set (H.length+7) ac)[H.length+2]?=Y3[H.length+2]?:=λac=>gv J;refine xQ 10 9 [0] mixed ah ?_;simp-dsimp[go_sem,B,hY3s,hY3f,hY3p,nE,sD,lE0];refine p7 (Pw p f) Z ?_;have rP:∀ac ae,((Y3.set (H.length+7) ac).set (H.length+2) ae)[H.length+2]?=some ae:=λac ae=>ji au;have hq4:∀ac ae,((Y3.set (H.length+7) ac).set (H.length+2) ae)[H.length+3]?=some (.oarr 97 1 (ks.map λk=>[.ptr k.c 0])):=λac ae=>by rw[gv J,gv J];exact S3.hq
   have hkl:ks.length=l.length:=by rw[my.len];simp
   simp-dsimp[go_sem,B,hY3s,hY3f,hY3p,nE,sD,lE0,rP,hq4];refine⟨J,?_⟩;refine u4 (α:=mz) ks.length (λn ac=>SysI H nb p A ac ks ((l.take n).map (wq p A (m+1))++(l.drop n).map (wq p A m)) F1 P1 E1/\ac[X.length+1]?=some (.cells f.c)) (λn ac=>⟨[(5,.ptr H.length 0),(9,.ptr (H.length+2) 0),(12,I m),(14,.ptr (X.length+1) 0),(55,.slice (A.map Txn.c)),(56,I A.length),(57,I m),(105,.own (H.length+3) ks.length),(106,I ks.length),(107,I n)],ac⟩) Y4 ⟨by simpa using S4,hc4⟩ (Wk.mk W cy hu4 co) ?_;clear hY1s hY1f aA hY2s hY2f hY2p zy hY3s hY3f hY3p nE rP hq4 S1 S2 S3 S4;rintro n ac hn ⟨SZ,hZc⟩;have qP:=oi hn J;have hbZ:=SZ.big;have hZo:=SZ.hs;have mE:=(gn.1 hZc).1;have hZq:=SZ.hq;have hZp:=SZ.hp;refine nf (λhd=>?_) (λhd=>?_)
   .have hdl:n<l.length:=J;have dG:ks[n]?=some ks[n]:=ii hd;obtain⟨k,hk⟩:=Qaj (ks[n])
    rw[hk]at dG;obtain⟨x,hx⟩:=Qaj (l[n])
    have hxg:((l.take n).map (wq p A (m+1))++(l.drop n).map (wq p A m))[n]?=some (wq p A m x):=cy;have r7:∀y,((l.take n).map (wq p A (m+1))++(l.drop n).map (wq p A m)).set n y=(l.take n).map (wq p A (m+1))++y::(l.drop (n+1)).map (wq p A m):=λy=>by simp_all[ku,kh,qiv]
    have jT:(l.take (n+1)).map (wq p A (m+1))++(l.drop (n+1)).map (wq p A m)=(l.take n).map (wq p A (m+1))++wq p A (m+1) x::(l.drop (n+1)).map (wq p A m):=by grind[jn,jf]
    have N:=SZ.nd n k _ dG hxg;have hZk:=N.hc;have y3:m<P1.length:=J;have hpg:P1[m]=sh p f:=W;have htk:=Po (H:=ac) (o:=H.length+2) (k:=k.c) (t:=m) (n:=x.node) (h0:=P1) SZ.hs (.inr ⟨_,by rw[ka],SZ.hpa⟩) hZk y3;rw[hpg]at htk;simp-dsimp[go_sem,B,hZq,hd,hk];refine se htk ?_;rintro r Y ⟨rfl,hZh⟩;rw[hZh];clear hZh Y;refine M ?_;refine og (λhg=>?_) (λhg=>?_)
    .have th:wn (sh p (pc A m)) x.node=true:=by rw[yV hc,ht,hf];exact hg
     have hpr:dN p A x.node m=tK p f x.node:=by simp_all[yV,dN]
     have hreq:=V8 (A:=A) hp x.node (m:=m) J th;rw[hpr]at hreq;have hZk':ac[k.c]?=some (.cells [I x.node,.slice (x.prs.map Pr.c),.slice ((zm p A x.node m).glob.map LReq.c),.slice ((zm p A x.node m).qs.map LQ.c),.own k.ib 0,.own k.sd A.length,.own k.xd A.length]):=by simp_all[wP,wq,List.length_replicate,ju]
     have hkl:=N.lt;obtain⟨Z1,hZ1⟩:=Qaj (ac.set k.c (.cells [I x.node,.slice (x.prs.map Pr.c),.slice ((zm p A x.node (m+1)).glob.map LReq.c),.slice ((zm p A x.node (m+1)).qs.map LQ.c),.own k.ib 0,.own k.sd A.length,.own k.xd A.length]))
     have hlZ1:Z1.length=ac.length:=W;have huZ1:hUnder Z1.length Z1=true:=by rw[<-hZ1];simp only[mr];refine Go.Abs.wh SZ.und ?_;exact Qex
     have SZ1:SysI H nb p A Z1 ks ((l.take (n+1)).map (wq p A (m+1))++(l.drop (n+1)).map (wq p A m)) F1 P1 E1:=by have:=SZ.upN (X':=Z1) (T:=zm p A x.node (m+1)) dG hxg (λj _ O=>by rw[<-hZ1];exact gv (Ne.symm O)) W J huZ1;rw[r7]at this;rw[jT];exact this
     have hcZ1:Z1[X.length+1]?=some (.cells f.c):=by rw[<-hZ1,gv (λe=>by rw[e,hZc]at hZk';simp[Foot.c]at hZk')];exact hZc
     refine M ?_;refine aW 21 mixed ah ?_;simp-dsimp[go_sem,B,hZk',hZp,hZc,Foot.c];refine p7 (Xa p f x.node) Z ?_;simp-dsimp[go_sem,B,LT.c];refine p7 hreq Z ?_;simp-dsimp[go_sem,B,LT.c,hZk',qP];refine⟨by simp[ww,List.zipIdx];exact⟨ah,.inr ah,.inr ah,ah⟩,?_⟩;refine⟨hd,Z1,⟨by rw[<-ln,<-lz];exact SZ1,hcZ1⟩,Wk.mk W cy huZ1 (by simp[go_sem,qP];omega)⟩
    have htm:zm p A x.node (m+1)=zm p A x.node m:=by rw[zm,gg (by grind[yV])]
    have yW:wq p A (m+1) x=wq p A m x:=by grind[wq]
    simp-dsimp[go_sem,B,qP];refine⟨hd,ac,⟨?_,hZc⟩,Wk.mk W (hwk.refl _) SZ.und (by simp[go_sem,qP];omega)⟩;grind[ln,lz,fM]
   have hn3:n=ks.length:=J;subst hn3;have hdr:l.drop ks.length=[]:=gq J;have htk2:l.take ks.length=l:=ll J;rw[hdr,htk2,kf,jv]at SZ;refine Qaa ?_;refine⟨hc,ac,?_,Wk.mk W (hwk.refl _) SZ.und co⟩
   simp_all
 have gF:m=A.length:=J;subst gF;rw[mj]at my;refine M ?_;refine⟨_,.refl _,X,by simp[V.under,q9];omega,hwk.refl _,J,my.und,rfl,ks,?_⟩;have e1:(A.map λt=>sh p (uw t))=gZ p A:=rfl;have e2:(A.map λt=>sj p (uw t))=jY p A:=rfl;rw[<-e1,<-e2];exact my
def VV(hp:qw p=true)(hl:l.length<=16)(hT:A.length<=1048576) :
  ACalls prog 30 [.slice (nb.map Proc.c),.agg p.c,.slice (l.map Shard.c),.slice (A.map Txn.c)] H λr Y=>∃o q ef tr ks,r=.ret (.ptr o 0)/\SysH H.length nb p A Y o q ef tr ks (cW p A l)/\∀j,j<H.length->Y[j]?=H[j]?:=by
 refine qkj (T1 hp hl hT) λr O G=>?_;obtain⟨rfl,ks,my⟩:=G;obtain⟨X',S',ho,hw⟩:=my.fin;grind
end
section
variable {hN:Nat} {nb:List Proc} {p:Plc} {A:List Txn} {H H':mz} {o q ef tr:Nat} {ks:List NK} {σ:Sy}
def oE(o:Nat):Cw.Act->List V
 | .send i t=>[.fn (.func 60) [P0 o] [],I i,I t]
 | .dlv i=>[.fn (.func 61) [P0 o] [],I i,I 0]
 | .exe i t=>[.fn (.func 64) [P0 o] [],I i,I t]
theorem Xx{o n:Nat}(h:o<n)(a:Cw.Act):q9 n (oE o a)=true:=by cases a<;>simp[oE,q9,V.under,h]
structure ActX(H:mz)(o:Nat)(X:List Cw.Act->mz):Prop where
 len:∀al,(X al).length=H.length+1
 und:∀al,hUnder (H.length+1) (X al)=true
 row:∀al,(X al)[H.length]?=some (.oarr 89 3 (al.map (oE o)))
 set:∀al a,(X al).set H.length (.oarr 89 3 (al.map (oE o)++[oE o a]))=X (al++[a])
 old:∀al j,j<H.length->(X al)[j]?=H[j]?
 eq:∀al,H++[.oarr 89 3 (al.map (oE o))]=X al
def qmf(H:mz){o:Nat}(ho:o<H.length)(Q:hUnder H.length H=true):∃X,ActX H o X:=by refine⟨λal=>H++[.oarr 89 3 (al.map (oE o))],λal=>by simp,λal=>?_,λal=>by simp,λal a=>by simp,λal j hj=>gu hj,λ_=>rfl⟩;rw[z8 Q];simp only[hUnder,qin,qjc,kg,AObj.under,jk,ig];grind[Xx]
def YN(my:SysH hN nb p A H o q ef tr ks σ)(hn:σ.nds.length<=16)(hT:A.length<=1073741824)(htr:σ.tr.length<=17179869184)(sP:∀x∈σ.nds,x.sent.length=A.length/\x.exd.length=A.length/\x.tab.glob.length+bE x.tab.qs<68719476736) :
  ACalls prog 31 [P0 o] H λr Y=>r=.ret (.own H.length (eB p A σ).length)/\Y=H++[.oarr 89 3 ((eB p A σ).map (oE o))]:=by
 refine s8 func31 ntmps31 λE B hh Q hb nl qb=>?_;obtain⟨l1,l2,l3,l4⟩:=my.lt;obtain⟨X,hX⟩:=qmf H l1 Q;have xA:2 * (σ.nds.length * A.length)+σ.tr.length<68719476736:=by have:=qi4 hn hT;omega
 have hSo:∀al,(X al)[o]?=some (.cells (xG nb p A q ef tr σ.nds.length σ.tr.length σ.efs.length)):=λal=>by rw[hX.old _ _ l1];exact my.ho
 have hSq:∀al,(X al)[q]?=some (.oarr 97 1 (ks.map λk=>[.ptr k.c 0])):=λal=>by rw[hX.old _ _ l2];exact my.hq
 have pT:=hX.len;have oF:=my.len;have Ac:=my.ho;have hShq:=my.hq;simp-dsimp[go_sem,B,Ac,hShq,oF];refine po σ.nds.length (λ_=>True) (λn=>⟨[(0,P0 o),(3,.own H.length (sZ p A σ n).length),(14,.own q σ.nds.length),(15,I σ.nds.length),(16,I n)],X (sZ p A σ n)⟩) trivial ((Yb E _ 3 89 3 af).trans ?_) ?_
 .rw[qnq];exact Wk.mk W (by rw[<-hX.eq];exact hwk.refl _) bp bx
 intro n jV _;have hw:=oi jV J;have oy:=IR (p:=p) (A:=A) (σ:=σ) jV;have hXr:=hX.row;refine nf (λhc=>?_) (λhc=>?_)
 .obtain⟨k,hk,N⟩:=my.node hc;have hkl:n<ks.length:=J;have dG:ks[n]=k:=W;obtain⟨x,hx⟩:=Qaj (σ.nds[n])
  obtain⟨qT,aJ,hxt⟩:=sP _ (ij hc);rw[hx]at N qT aJ hxt;obtain⟨lk1,lk2,lk3,lk4⟩:=N.lt;have rJ:∀al,(X al)[k.c]?=some (.cells (wP x k)):=λal=>by rw[hX.old _ _ lk1];exact N.hc
  have hXd:∀al,(X al)[k.sd]?=some (.uarr 4 1 (x.sent.map rS)):=λal=>by rw[hX.old _ _ lk3];exact N.hs
  simp-dsimp[go_sem,B,hSo,hSq,hkl,dG,oF,hc];refine po A.length (λ_=>True) (λm=>⟨[(0,P0 o),(3,.own H.length (qF p A σ n x m).length),(4,I n),(5,P0 k.c),(14,.own q σ.nds.length),(15,I σ.nds.length),(16,I n),(25,I A.length),(26,I m)],X (qF p A σ n x m)⟩) trivial ?_ ?_
  .rw[qsy];exact Wk.mk W (hwk.refl _) bp bx
  intro m hm1 _;have hwm:=oi hm1 J;have hlQ:=We (p:=p) (A:=A) (σ:=σ) hc x hm1;refine nf (λhd=>?_) (λhd=>?_)
  .have y3:m<(gZ p A).length:=by rw[Ym];exact hd
   have hpg:=qm8 (p:=p) hd y3;have htk:=λal=>Po (H:=X al) (o:=o) (k:=k.c) (t:=m) (n:=x.node) (h0:=gZ p A) (hSo al) (.inl rfl) (rJ al) y3;simp only[hpg]at htk;have hgr:=XA x.tab m hxt;refine M ?_;refine o7 (htk _) ?_;simp-dsimp[go_sem,B,rJ,hXd,qT,hd,LT.c,rS];refine pz hgr Z ?_;have hcan:lV p A x m=(wn (sh p (pc A m)) x.node&&!x.sent[m]&&BG x.tab m):=by grind[ii,lV]
   have oZ:=Yk (p:=p) (A:=A) (σ:=σ) n x m;have hsn:(qF p A σ n x (m+1)).length<=68719476736:=W;refine M ?_;refine og (λhg=>?_) (λhg=>?_)
   .have pa:lV p A x m=true:=qgg;rw[gh pa]at oZ;rw[oZ]at hsn|-;simp only[it,lj]at hsn;have hXs:=hX.set (qF p A σ n x m) (.send n m);exact Qha
   have pa:lV p A x m=false:=qgg;exact Qhb
  have hm:m=A.length:=J;subst hm;refine Qaa ?_;rw[Yu hc,hx];exact⟨J,Wk.mk W (hwk.refl _) bp bx⟩
 have hn:n=σ.nds.length:=J;subst hn;have hSt:∀al,(X al)[tr]?=some (.uarr 162 5 (σ.tr.map Mail.c)):=λal=>by rw[hX.old _ _ l4];exact my.ht
 rw[WL];simp-dsimp[go_sem,B,hSo,hSt];refine po σ.tr.length (λ_=>True) (λm=>⟨[(0,P0 o),(3,.own H.length (sI p A σ m).length),(65,I σ.tr.length),(66,I m)],X (sI p A σ m)⟩) trivial (Wk.mk W (hwk.refl _) bp bx) ?_;intro m hm1 _;have hwm:=oi hm1 J;refine nf (λhd=>?_) (λhd=>?_)
 .have oZ:=VN (p:=p) (A:=A) (σ:=σ) m;have hsn:=Wt (p:=p) (A:=A) (σ:=σ) (m:=m+1) hd;rw[oZ]at hsn;simp only[it,lj]at hsn;have hXs:=hX.set (sI p A σ m) (.dlv m);simp-dsimp[go_sem,B,hXr];rw[oZ];exact⟨J,hd,Wk.mk W qg2 bp qg8⟩
 have hm:m=σ.tr.length:=J;subst hm;rw[Yz];simp-dsimp[go_sem,B,hSo,hSq,oF];refine po σ.nds.length (λ_=>True) (λn=>⟨[(0,P0 o),(3,.own H.length (tO p A σ n).length),(80,.own q σ.nds.length),(81,I σ.nds.length),(82,I n)],X (tO p A σ n)⟩) trivial (Wk.mk W (hwk.refl _) bp bx) ?_;intro n jV _;have hw:=oi jV J;refine nf (λhc=>?_) (λhc=>?_)
 .obtain⟨k,hk,N⟩:=my.node hc;have hkl:n<ks.length:=J;have dG:ks[n]=k:=W;obtain⟨x,hx⟩:=Qaj (σ.nds[n])
  obtain⟨qT,aJ,hxt⟩:=sP _ (ij hc);rw[hx]at N qT aJ hxt;obtain⟨lk1,lk2,lk3,lk4⟩:=N.lt;have rJ:∀al,(X al)[k.c]?=some (.cells (wP x k)):=λal=>by rw[hX.old _ _ lk1];exact N.hc
  have hXx:∀al,(X al)[k.xd]?=some (.uarr 4 1 (x.exd.map rS)):=λal=>by rw[hX.old _ _ lk4];exact N.hx
  have xg:∀al,(X al)[k.ib]?=some (.arr 162 5 (x.inbox.map Mail.c)):=λal=>by rw[hX.old _ _ lk2];exact N.hi
  simp-dsimp[go_sem,B,hSo,hSq,hkl,dG,oF,hc];refine po A.length (λ_=>True) (λm=>⟨[(0,P0 o),(3,.own H.length (qC p A σ n x m).length),(8,I n),(9,P0 k.c),(80,.own q σ.nds.length),(81,I σ.nds.length),(82,I n),(91,I A.length),(92,I m)],X (qC p A σ n x m)⟩) trivial ?_ ?_
  .rw[qm3];exact Wk.mk W (hwk.refl _) bp bx
  intro m hm1 _;have hwm:=oi hm1 J;refine nf (λhd=>?_) (λhd=>?_)
  .have y3:m<(jY p A).length:=by rw[KW];exact hd
   have hpg:=KF (p:=p) hd y3;have htk:=λal=>Q8 (H:=X al) (o:=o) (k:=k.c) (t:=m) (n:=x.node) (h0:=jY p A) (hSo al) (.inl rfl) (rJ al) y3;simp only[hpg]at htk;have hft:=yV hd;have r9:=Vn p (pc A m) m x.node x.inbox;have hcan:mA p A x m=(wn (sj p (pc A m)) x.node&&!x.exd[m]&&tU p (pc A m) m x.node x.inbox):=by grind[ii,mA]
   rw[hft]at r9 hcan;rw[hft]at htk;have oZ:=Ys (p:=p) (A:=A) (σ:=σ) n x m;have hsn:(qC p A σ n x (m+1)).length<=68719476736:=by grind[ql5]
   refine M ?_;refine AT 36 3 [] mixed ah (M ?_);refine B3 (htk _) ?_;simp-dsimp[go_sem,B,hSo,rJ,hXx,xg,aJ,hd,rS];refine pz r9 Z (M ?_);refine og (λhg=>?_) (λhg=>?_)
   .have pa:mA p A x m=true:=qgg;rw[gh pa]at oZ;rw[oZ]at hsn|-;simp only[it,lj]at hsn;have hXs:=hX.set (qC p A σ n x m) (.exe n m);exact Qha
   have pa:mA p A x m=false:=qgg;exact Qhb
  have hm:m=A.length:=J;subst hm;refine Qaa ?_;rw[Ws hc,hx];exact⟨J,Wk.mk W (hwk.refl _) bp bx⟩
 have hn:n=σ.nds.length:=J;subst hn;rw[qot];simp-dsimp[go_sem,B,hXr];exact⟨_,.refl _,X (eB p A σ),by simp[V.under,q9,pT],hwk.refl _,by simp[pT],bp,rfl,(hX.eq _).symm⟩
end
section
def WO{tT:TypeId}{tx:Nat×Nat}{g:Nat}{f:FuncId}{args:List V}{r:V}{h:mz}(H:∀h,h[g]?=some (fZ tT tx)->ACalls prog f args h λe Y=>e=.ret r/\Y=h)(hg:h[g]?=some (fZ tT tx)):D9 prog f args r h:=λY hs=>H Y (hs g _ rfl hg)
variable {tT:TypeId} {tx:Nat×Nat} {g:Nat}
end
section
variable {hN:Nat} {nb:List Proc} {p:Plc} {A:List Txn} {H H':mz} {o q ef tr:Nat} {ks:List NK} {σ:Sy}
variable {tT:TypeId} {tx:Nat×Nat} {g:Nat}
def UA(my:SysH hN nb p A H o q ef tr ks σ)(hp:qw p=true)(hg:H[g]?=some (fZ tT tx))(hgB:g<hN){i t:Nat}(hi:i<σ.nds.length)(ht:t<A.length)(nh:t<σ.nds[i].exd.length)(hee:t<σ.efs.length)
  (th:σ.nds[i].node∈sj p (pc A t)) {h0:Nat} (hL:∀m∈aX t σ.nds[i].node σ.nds[i].inbox,m.prs.length<=h0) (hM:((aX t σ.nds[i].node σ.nds[i].inbox).length+1) * h0<68719476736)
  (hC:(cN t σ.nds[i].node σ.nds[i].inbox).1.length<=60000000000) (z:∀p',lB nb A[t]=some p'->RunIn pw p' A[t].args (cN t σ.nds[i].node σ.nds[i].inbox).1)
  (hA:σ.nds[i].prs.length+(vx pw nb (cN t σ.nds[i].node σ.nds[i].inbox).1 A[t]).2.writes.length<68719476736)
  (hv:kV σ.nds[i].tab=true) (hl:σ.nds[i].tab.glob.length<68719476736) (hq:σ.nds[i].tab.qs.length<68719476736) (G:∀x∈σ.nds[i].tab.qs,x.reqs.length<68719476736) :
  ACalls prog 64 [P0 o,I i,I t] H λr Y=>r=.ret (.tuple [])/\SysH hN nb p A Y o q ef tr ks (we pw nb p A σ (.exe i t))/\(∀j,j<hN->Y[j]?=H[j]?):=by
 have BL:=UH t σ.nds[i].node σ.nds[i].inbox h0 hL hM;have tc:=λX hX=>qrc (g:=g) (tT:=tT) (tx:=tx) nb (cN t σ.nds[i].node σ.nds[i].inbox).1 A[t] X hX z hC;obtain⟨C,hCe⟩:=Qaj (cN t σ.nds[i].node σ.nds[i].inbox)
 rw[hCe]at BL hC z tc hA;obtain⟨e,hE⟩:=Qaj ((vx pw nb C.1 A[t]).2)
 have hd:we pw nb p A σ (.exe i t)=⟨σ.nds.set i (yc pw nb p σ.nds[i] t e),σ.tr,if (sj p (pc A t)).head?=some σ.nds[i].node then σ.efs.set t e else σ.efs⟩:=by simp only[we,ii hi,ii ht,hCe,hE];rfl
 rw[hd];obtain⟨k,hk,N⟩:=my.node hi;have hx:σ.nds[i]?=some σ.nds[i]:=ii hi;obtain⟨x,aJ⟩:=Qaj (σ.nds[i])
 rw[aJ]at hx N nh th BL hA hv hl hq G|-;rw[hE]at hA;simp only[hE]at tc;have how:=Le p e.writes x.node hp;have tq:i<ks.length:=W;have dG:ks[i]=k:=W;have Ac:=my.ho;have hSq:=my.hq;have oF:=my.len;obtain⟨tE,nk2,nk3,nk4⟩:=my.nn hk hx hk hx;obtain⟨lk1,lk2,lk3,lk4⟩:=N.lt;obtain⟨x1,rF⟩:∃x1:Nd,x1=⟨x.node,x.prs,x.tab,x.inbox,x.sent,x.exd.set t true⟩:=⟨_,rfl⟩
 obtain⟨H1,lW⟩:∃H1,H1=H.set k.xd (.uarr 4 1 ((x.exd.map rS).set t [.val (.bool true)])):=⟨_,rfl⟩
 have wL:∀j,j≠k.xd->H1[j]?=H[j]?:=λj hj=>by rw[lW,gv (Ne.symm hj)]
 have N1:NdH H1 k x1:=by
  rw[rF];refine⟨?_,?_,?_,?_⟩
  .rw[wL _ tE.2.2,N.hc];simp
  .rw[wL _ nk2.2.2,N.hi]
  .rw[wL _ nk3.2.2,N.hs]
  rw[lW,ji lk4,qiq];rfl
 have S1:=my.upN (H':=H1) hk hx (λj _ _ _ _ h4=>wL j h4) N1;have aG:H1.length=H.length:=W;have hS1o:=S1.ho;have hS1e:=S1.he;have hte:t<(jY p A).length:=by grind[KW]
 have hexg:=KF (p:=p) ht hte;have mE:0<(sj p (pc A t)).length:=List.length_pos_of_mem th;obtain⟨l1,l2,l3,l4⟩:=S1.lt;obtain⟨ne1,ne2,ne3,ne4,ne5,ne6⟩:=S1.ne;have iK:∀X:mz,(H1++X)[g]?=some (fZ tT tx):=λX=>by have U:=my.lk k (gw hk);grind
 have hg0:H1[g]?=some (fZ tT tx):=by simpa using iK []
 have hN1c:=N1.hc;have hN1i:=N1.hi;rw[rF]at hN1c hN1i;refine s8 func64 ntmps64 λE B hh Q hb nl qb=>?_;have hu1:hUnder H.length H1=true:=by rw[lW];exact Go.Abs.wh Q rfl
 simp-dsimp[go_sem,B,Ac,hSq,N.hc,N.hx,hi,tq,dG,nh,oF,rS];rw[<-lW];refine pf 15 ?_;simp-dsimp[go_sem,B,hN1c,hN1i];refine p7 BL Z ?_;simp-dsimp[go_sem,B,hS1o,ht];refine pf 18 ?_;simp-dsimp[go_sem,B,hS1o,ht,Txn.c];refine TM (λ_=>WO (λh hg=>tc h hg) hg0) Z ?_;simp-dsimp[go_sem,B,Eff.c,aG];obtain⟨H4,hH4⟩:=Qaj (H1++[AObj.cells e.c])
 have hl4:H4.length=H.length+1:=W;have S4:=S1.up0 (H':=H4) λj hj=>by rw[<-hH4];exact gu hj
 have hc4:H4[H.length]?=some (.cells e.c):=W;have hu4:hUnder (H.length+1) H4=true:=by rw[<-hH4,<-aG,z8 W];simp[hUnder,Eff.c,AObj.under,V.under,q9]
 have hf4:∀j,j<hN->H4[j]?=H[j]?:=λj hj=>by have U:=my.lk k (gw hk);grind
 have hS4o:=S4.ho;have hS4e:=S4.he;have hN4:=S4.nd i k x1 hk (ji hi);have hN4c:=hN4.hc;rw[rF]at hN4c;refine pf 14 ?_;have hH4':H1++[AObj.cells [I e.status,I e.code,V.slice (e.out.map AV.c),V.slice (e.reads.map ny),V.slice (e.puts.map ny),V.slice (e.writes.map Pr.c),Cw.my e.miss,I e.steps]]=H4:=hH4;simp only[hH4'];simp-dsimp[go_sem,B,hS4o,hN4c,hte,hexg,mE];have hefl:ef<H.length:=J;have hc4':∀h',(H4.set ef h')[H.length]?=some (.cells e.c):=λh'=>by rw[gv J];exact hc4
 have hhd:(sj p (pc A t)).head?=some (sj p (pc A t))[0]:=by rw[List.head?_eq_getElem?,ii mE]
 refine og (λhgc=>?mw) (λhgc=>?hN)<;>simp at hgc
 case' mw =>
  have hF:∃F,F=(if (sj p (pc A t)).head?=some x.node then σ.efs.set t e else σ.efs)/\F.length=σ.efs.length/\F=σ.efs.set t e:=⟨_,rfl,by split<;>simp,by rw[gh W]⟩
  obtain⟨F,hF,bX,dE⟩:=hF;refine M ?_;refine pf 6 ?_;simp-dsimp[go_sem,B,hS4o,hS4e,hc4,hc4',hee,Eff.c];obtain⟨H5,hH5⟩:=Qaj (H4.set ef (.uarr 82 8 (F.map Eff.c)))
  have hX:H4.set ef (AObj.uarr 82 8 ((σ.efs.map Eff.c).set t [I e.status,I e.code,V.slice (e.out.map AV.c),V.slice (e.reads.map ny),V.slice (e.puts.map ny),V.slice (e.writes.map Pr.c),Cw.my e.miss,I e.steps]))=H5:=by grind[qiq]
  rw[hX];have hl5:H5.length=H.length+1:=W;have S5:SysH hN nb p A H5 o q ef tr ks ⟨σ.nds.set i x1,σ.tr,F⟩:=S4.upE bX W (λj _ O=>by rw[<-hH5];exact gv (Ne.symm O));have hc5:H5[H.length]?=some (.cells e.c):=W;have hu5:hUnder (H.length+1) H5=true:=by rw[<-hH5];exact Go.Abs.wh hu4 rfl
  have hf5:∀j,j<hN->H5[j]?=H[j]?:=λj hj=>by rw[<-hH5,gv (by have:=my.lo;omega)];grind
 case' hN =>
  have hF:∃F,F=(if (sj p (pc A t)).head?=some x.node then σ.efs.set t e else σ.efs)/\F.length=σ.efs.length/\F=σ.efs:=⟨_,rfl,by split<;>simp,by rw[gg W]⟩
  obtain⟨F,hF,bX,dE⟩:=hF;simp-dsimp[go_sem,B,hc4,Eff.c];obtain⟨H5,hH5⟩:=Qaj (H4)
  rw[hH5]at hl4 S4 hc4 hu4 hf4;rw[hH5];have hl5:=hl4;have S5:SysH hN nb p A H5 o q ef tr ks ⟨σ.nds.set i x1,σ.tr,F⟩:=W;have hc5:=hc4;have hu5:=hu4;have hf5:=hf4
 all_goals
  have hN5:=S5.nd i k x1 hk (ji hi);have hN5c:=hN5.hc;have hS5o:=S5.ho;have hkl5:k.c<H5.length:=J;rw[<-hF];obtain⟨ae,hW⟩:=Qaj (wc p e.writes x.node)
  rw[hW]at how;have hWl:ae.length<=e.writes.length:=by rw[<-hW];exact qjx _ _
  have hlkB:=my.lk k (gw hk);have fin:∀P2,P2=(if e.status=1/\ph x.prs=true/\y9 ae=true then y7 x.prs ae else x.prs) ->
    ∃H6,H5.set k.c (.cells [I x.node,.slice (P2.map Pr.c),.slice ((relS x.tab t).glob.map LReq.c),.slice ((relS x.tab t).qs.map LQ.c),.own k.ib x.inbox.length,.own k.sd x.sent.length,.own k.xd x.exd.length])=H6/\SysH hN nb p A H6 o q ef tr ks ⟨σ.nds.set i (yc pw nb p x t e),σ.tr,F⟩/\H6.length=H.length+1/\hUnder (H.length+1) H6=true/\∀j,j<hN->H6[j]?=H[j]?:=λP2 hP2=>by
   refine⟨_,rfl,?_,by simp[hl5],?_,λj hj=>?_⟩
   .have:=S5.upN (H':=H5.set k.c (.cells [I x.node,.slice (P2.map Pr.c),.slice ((relS x.tab t).glob.map LReq.c),.slice ((relS x.tab t).qs.map LQ.c),.own k.ib x.inbox.length,.own k.sd x.sent.length,.own k.xd x.exd.length])) (x':=yc pw nb p x t e) hk (ji hi) (λj _ O _ _ _=>by rw[gv (Ne.symm O)]) ?_
    .simp_all
    have he:yc pw nb p x t e=⟨x.node,P2,relS x.tab t,x.inbox,x.sent,x.exd.set t true⟩:=by rw[hP2,<-hW];rfl
    rw[he];have N2:=hN5;rw[rF]at N2;refine⟨by rw[ji hkl5];simp,?_,?_,?_⟩
    .grind
    .rw[gv tE.2.1];exact N2.hs
    rw[gv tE.2.2];exact N2.hx
   .refine Go.Abs.wh hu5 ?_;exact Qex
   grind[gv]
  rw[rF]at hN5c;refine ox (λaA=>?_) (λaA=>?_)
  .refine M ?_;refine pf 22 ?_;simp-dsimp[go_sem,B,hN5c,hS5o,hc5,Eff.c];refine p7 how Z (M ?_);refine p7 (Oe x.prs ae J) Z ?_;by_cases pg:(ph x.prs&&y9 ae)=true
   .rw[gh pg];simp-dsimp[go_sem,B,hN5c];refine o7 (G2 (o:=o) (t:=t) (ji hkl5) hv hl hq G) ?_;rw[mq];refine M ?_;obtain⟨H6,hH6,S6,hl6,hu6,hf6⟩:=fin (y7 x.prs ae) (by
     rw[gy]at pg;rw[gh ⟨aA,pg⟩])
    exact Qhc
   rw[gg pg];refine M ?_;refine o7 (G2 (o:=o) (t:=t) hN5c hv hl hq G) (M ?_);obtain⟨H6,hH6,S6,hl6,hu6,hf6⟩:=fin x.prs (by rw[gy]at pg;rw[gg (λh=>pg h.2)])
   exact Qhc
  refine M ?_;refine o7 (G2 (o:=o) (t:=t) hN5c hv hl hq G) (M ?_);obtain⟨H6,hH6,S6,hl6,hu6,hf6⟩:=fin x.prs W;exact Qhc
end
end Go.Proofs.YtolejdhnnchfpaaGreatDoor
namespace Go.Proofs.YtolejdhnnchfpaaGreatDoor
open Go Go.Abs Go.Proofs Go.Shelf Go.RowKit Go.Lib Go.Cw Go.Proofs.Tryz
theorem Jz{P:Program}(w:World)(g o:Nat)(t:TypeId)(vs:List Value)(nu:Array Value)(hg:w.heap[g]?=some (.cells nu t (0,0)))(hl:o+vs.length<=nu.size)(O:∀v∈vs,v.oneCell'=true) :
  w.setCells g o vs=w.setRow g (nu.toList.take o++vs++nu.toList.drop (o+vs.length)).toArray:=by
 have e1:=qjp P g o t vs 0 nu w hg J O;have e2:=run_storeCells_cells (P:=P) g o vs 0 w (λj hj=>by have:o+0+j<nu.size:=J;have U:o+j<nu.size:=J;simp[World.cell?,hg,U]) (λj hj=>by simp[World.frozen?,hg]) O
 rw[e1]at e2;grind
abbrev zM:Array Value:=#[.int .i64 0,.int .i64 0,.int .i64 0,.slice none 0 0,.slice none 0 0]
def qpx:∃i,prog.info? 162=some i/\i.zero=some (.agg zM)/\i.size=5/\i.bytes=72:=info_parts ah
theorem LY(n:Nat):∀v∈(Builtin.zeroCells zM n).toList,v.oneCell'=true:=λv hv=>by
 unfold Builtin.zeroCells at hv;rw[Array.toList_map]at hv;obtain⟨q,_,rfl⟩:=ig.1 hv;have hq:q % 5<5:=qik _ J;show(zM[q % 5]!).oneCell'=true;generalize q % 5=r at hq
 match r,hq with
 | 0,_=>rfl
 | 1,_=>rfl
 | 2,_=>rfl
 | 3,_=>rfl
 | 4,_=>rfl
def qn4(w:World)(g cap n i j:Nat)(nu:Array Value)(hg:w.heap[g]?=some (.cells nu 162 (0,0)))(uh:n<=cap)(r9:cap<=maxLen)(su:nu.size=cap * 5)
  (tc:∀v∈nu.toList.take (n * 5),v.oneCell'=true) (ni:i<j) (hj:j<=n) :
  Calls prog 98 #[.slice (some ⟨g,0,none⟩) n cap,.int .i64 i,.int .i64 j] w λe w'=>e=.returned (.slice (some ⟨g,0,none⟩) (n - (j - i)) cap) /\
   w'=(w.drew.setCells g (i * 5) ((nu.toList.drop (j * 5)).take ((n - j) * 5))).setCells g ((i+(n - j)) * 5) (Builtin.zeroCells zM (n - (i+(n - j)))).toList:=by
 have mixed:prog.follows .mixedOrders=true:=ah;obtain⟨i0,hi0,hz0,zd,hzb⟩:=qpx;have p6:∀w,(Go.sizeOf 162).run prog w=.ok 5 w:=λw=>by simp[Go.sizeOf,typeInfo,hi0,zd]
 have hm:cap<=9223372036854775807:=r9;obtain⟨oq,vY⟩:=Qaj ((nu.toList.drop (j * 5)).take ((n - j) * 5))
 have qn:nu.toList.length=cap * 5:=J;have oy:oq.length=(n - j) * 5:=W;have s6:∀q u,nu.toList[q]?=some u->w.drew.cell? ⟨g,q,none⟩=some u:=λq u Q=>by have wu:w.drew.heap[g]?=some (.cells nu 162 (0,0)):=hg;rw[kq]at Q;simp[World.cell?,wu,Q]
 obtain⟨mw,hA,pI⟩:∃mw:Addr,(if cap=j then some (⟨g,0,none⟩:Addr)else some ⟨g,j * 5,none⟩)=some mw/\Hid (∀t u,oq[t]?=some u->w.drew.cell? (mw.add t)=some u):=by
  by_cases h:cap=j
  .refine⟨⟨g,0,none⟩,cn,λt u Q=>?_⟩;have L:oq.length=0:=J;grind
  refine⟨⟨g,j * 5,none⟩,cn,λt u Q=>?_⟩;rw[Addr.add_lit];grind
 have s1:Hid (oq.length=(n - j) * 5):=oy;have cB:∀u∈oq,u∈nu.toList.take (n * 5):=λu Q=>by
  rw[<-vY]at Q;obtain⟨q,hq⟩:=iw Q;rw[jo]at hq;split at hq
  .rw[kj]at hq;refine gw (i:=j * 5+q) ?_;grind
  cases hq
 have s2:Hid (∀u∈oq,u.oneCell'=true):=λu Q=>tc u (cB u Q);have s3:Hid (∀t,t<oq.length->(w.drew.cell? ⟨g,0+i * 5+t,none⟩).isSome=true/\w.drew.frozen? ⟨g,0+i * 5+t,none⟩=false):=by intro t ht;rw[oy]at ht;have hq:0+i * 5+t<nu.toList.length:=J;refine⟨by rw[s6 _ _ (ii hq)];rfl,?_⟩;have wu:w.drew.heap[g]?=some (.cells nu 162 (0,0)):=hg;simp[World.frozen?,wu]
 obtain⟨W1,lP⟩:∃W1,W1=w.drew.setCells g (0+i * 5) oq:=⟨_,rfl⟩
 have iK:W1.heap[g]?=some (.cells (nu.toList.take (0+i * 5)++oq++nu.toList.drop (0+i * 5+oq.length)).toArray 162 (0,0)):=by rw[lP,Jz (P:=prog) w.drew g (0+i * 5) 162 oq nu hg J s2];exact qi1 w.drew g nu _ 162 (0,0) hg
 obtain⟨ac,hZ⟩:=Qaj ((Builtin.zeroCells zM (n - (i+(n - j)))).toList)
 have hZl:ac.length=(n - (i+(n - j))) * 5:=by rw[<-hZ];simp[Builtin.zeroCells]
 have hZ1:∀v∈ac,v.oneCell'=true:=λv hv=>by grind[LY]
 have hcl2:∀ty,(Builtin.clear_ #[94] ty #[.slice (some ⟨g,(i+(n - j)) * 5,none⟩) (n - (i+(n - j))) (cap - (i+(n - j)))]).run prog W1=.ok (.tuple #[]) (W1.setCells g ((i+(n - j)) * 5) ac):=λty=>by
  have iH:(zeroValue 162).run prog W1=.ok (.agg zM) W1:=Z;have r7:=run_storeCells_cells (P:=prog) g ((i+(n - j)) * 5) ac 0 W1 (λq hq=>by have h3:(i+(n - j)) * 5+0+q<(nu.toList.take (0+i * 5)++oq++nu.toList.drop (0+i * 5+oq.length)).toArray.size:=W;simp only[World.cell?,iK,ky h3];rfl) (λq hq=>by simp[World.frozen?,iK]) hZ1
  simp only[jt]at r7;cases hq:n - (i+(n - j))with
  |zero=>omega
  |succ q =>
   rw[hq]at hZ;simp only[Builtin.clear_];have hZ':(Builtin.zeroCells (Value.agg zM).cells (q+1)).toList=ac:=hZ
   simp_all
 have hW:Hid (W1=w.drew.setCells g (0+i * 5) oq):=lP;have hic:i<=cap:=J;have hjc:j<=cap:=J;have X:Aside (∀x:World,x=W1.setCells g ((i+(n - j)) * 5) ac->x=(w.drew.setCells g (i * 5) oq).setCells g ((i+(n - j)) * 5) ac):=λx hx=>by grind
 rw[hZ,vY];clear lP iK hg s6 cB vY oy tc hZ hZ1 hZl qn su
 go_enter func98,ntmps98
 go_wp2_with fail
 go_region_law_o (refine step_append_room rfl (.tmp 22) (.tmp 25) 94 rfl 162 i0 5 underlying94 hi0 zd g 0 i cap dt mw (n - j) (cap - j) oq dt s1.out pI.out s2.out J s3.out ?_;rw[<-hW.out])
 go_wp2
 go_ret
 exact⟨by rw[show n - (j - i)=i+(n - j)by omega];rfl,X.out _ rfl⟩
theorem qrf{h:mz}{i j:Nat}{S:List (List V)}(hi:h[i]?=some (.uarr 162 5 S))(hj:j<S.length) :
  ACalls prog 98 [.own i S.length,I j,I (j+1:Nat)] h λr Y=>r=.ret (.own h.length (S.length - 1))/\Y=h.set i .none++[.uarr 162 5 (S.eraseIdx j)]:=by
 refine qks ⟨_,func98,rfl,ah⟩ hi hj λw g cap nu hh uh r9 su tc=>?_;refine(qn4 w g cap S.length j (j+1) nu hh uh r9 su tc J J).mono ?_;rintro en w' ⟨rfl,rfl⟩;have qn:nu.toList.length=cap * 5:=J;obtain⟨n,hn⟩:=Qaj (S.length)
 rw[hn]at hj uh tc|-;obtain⟨oq,vY⟩:=Qaj ((nu.toList.drop ((j+1) * 5)).take ((n - (j+1)) * 5))
 have oy:oq.length=(n - (j+1)) * 5:=W;have jV:∀u∈oq,u.oneCell'=true:=λu Q=>by
  rw[<-vY]at Q;obtain⟨q,hq⟩:=iw Q;rw[jo]at hq;split at hq
  .rw[kj]at hq;refine tc u (gw (i:=(j+1) * 5+q) ?_);grind
  cases hq
 obtain⟨ac,hZ⟩:=Qaj ((Builtin.zeroCells zM (n - (j+(n - (j+1))))).toList)
 have hZl:ac.length=5:=by rw[<-hZ];simp[Builtin.zeroCells];omega
 have hZ1:∀v∈ac,v.oneCell'=true:=λv hv=>by grind[LY]
 rw[vY,hZ];have hd:w.drew.heap[g]?=some (.cells nu 162 (0,0)):=hh;have e1:=Jz (P:=prog) w.drew g (j * 5) 162 oq nu hd J jV;obtain⟨c1,tg⟩:∃c1:Array Value,(nu.toList.take (j * 5)++oq++nu.toList.drop (j * 5+oq.length)).toArray=c1:=⟨_,rfl⟩
 rw[tg]at e1;have hc1l:c1.toList=nu.toList.take (j * 5)++oq++nu.toList.drop (j * 5+oq.length):=W;have hc1s:c1.size=cap * 5:=W;have hh1:(w.drew.setRow g c1).heap[g]?=some (.cells c1 162 (0,0)):=qi1 w.drew g nu _ 162 (0,0) hd;have e2:=Jz (P:=prog) (w.drew.setRow g c1) g ((j+(n - (j+1))) * 5) 162 ac c1 hh1 J hZ1;obtain⟨c2,sq⟩:∃c2:Array Value,(c1.toList.take ((j+(n - (j+1))) * 5)++ac++c1.toList.drop ((j+(n - (j+1))) * 5+ac.length)).toArray=c2:=⟨_,rfl⟩
 rw[sq]at e2;have hc2l:c2.toList=c1.toList.take ((j+(n - (j+1))) * 5)++ac++c1.toList.drop ((j+(n - (j+1))) * 5+ac.length):=W;have hc1l2:c1.toList.length=cap * 5:=J;rw[e1,e2];refine⟨by rw[show n - (j+1 - j)=n - 1 by omega],rfl,rfl,rfl,by simp only[World.setRow,Array.size_modify];exact gj _,λb hb _=>?_,c2,qi1 _ g c1 _ 162 (0,0) hh1,?_,?_⟩
 .rw[qje _ g b _ hb,qje _ g b _ hb];rfl
 .rw[<-Array.length_toList,hc2l];simp only[it,kc,qiw,hc1l2,hZl];omega
 have hm:(j+(n - (j+1))) * 5=(n - 1) * 5:=by congr 1;omega
 grind
end Go.Proofs.YtolejdhnnchfpaaGreatDoor
namespace Go.Proofs.YtolejdhnnchfpaaGreatDoor
open Go Go.Abs Go.Cw Go.Proofs.Tryz
section
variable {hN:Nat} {nb:List Proc} {p:Plc} {A:List Txn} {H H':mz} {o q ef tr:Nat} {ks:List NK} {σ:Sy}
def qmi{α:Type}(f:α->α)(l:List α){n:Nat}(h:n<l.length):((l.take n).map f++l.drop n).set n (f l[n])=(l.take (n+1)).map f++l.drop (n+1):=by have hl:((l.take n).map f).length=n:=au;rw[ku _ _ J,hl,kh,qiv h,List.set_cons_zero,jn h,jr,jf];rfl
def U6{α:Type}(f:α->α)(l:List α){n:Nat}(h:n<l.length):((l.take n).map f++l.drop n)[n]?=some l[n]:=W
theorem qq1{α β:Type}(f:α->β)(l:List α)(i:Nat):(l.map f).eraseIdx i=(l.eraseIdx i).map f:=by simp[List.eraseIdx_eq_take_drop_succ,ln,lz]
abbrev HC(m:Mail)(σ:Sy)(i n:Nat):Sy:=⟨(σ.nds.take n).map (y5 m)++σ.nds.drop n,σ.tr.eraseIdx i,σ.efs⟩
def UM(my:SysH hN nb p A H o q ef tr ks σ){i j:Nat}(hi:i<σ.tr.length)(xc:σ.nds.length<=16)(htr:σ.tr.length<=68719476736)(hib:∀x∈σ.nds,x.inbox.length<68719476736) :
  ACalls prog 61 [P0 o,I i,I j] H λr Y=>r=.ret (.tuple [])/\(∃tr2,SysH hN nb p A Y o q ef tr2 ks (we pw nb p A σ (.dlv i)))/\(∀j,j<hN->Y[j]?=H[j]?):=by
 have hd:we pw nb p A σ (.dlv i)=⟨σ.nds.map (y5 σ.tr[i]),σ.tr.eraseIdx i,σ.efs⟩:=by exact Qdv
 rw[hd];obtain⟨m,hm⟩:=Qaj (σ.tr[i])
 have Ac:=my.ho;have hSt:=my.ht;obtain⟨l1,l2,l3,l4⟩:=my.lt;obtain⟨ne1,ne2,ne3,ne4,ne5,ne6⟩:=my.ne;have hmc:(σ.tr.map Mail.c)[i]?=some m.c:=W;refine s8 func61 ntmps61 λE B hh Q hb nl qb=>?_;obtain⟨H1,lW⟩:=Qaj (H++[AObj.cells m.c])
 have aG:H1.length=H.length+1:=W;have hdel:ACalls prog 98 [.own tr σ.tr.length,I i,I ((i:Int)+1)] H1 λr Y=>r=.ret (.own (H.length+1) (σ.tr.eraseIdx i).length)/\Y=H1.set tr .none++[.uarr 162 5 ((σ.tr.eraseIdx i).map Mail.c)]:=by grind[gu,ka,qq1,List.length_eraseIdx_of_lt,qrf]
 have aN:IntKind.i64.wrap ((i:Int)+1)=(i:Int)+1:=eU J J;have hSo1:∀l,(H++l)[o]?=some (.cells (xG nb p A q ef tr σ.nds.length σ.tr.length σ.efs.length)):=λl=>by rw[gu l1];exact Ac
 have hSt1:∀l,(H++l)[tr]?=some (.uarr 162 5 (σ.tr.map Mail.c)):=λl=>by rw[gu l4];exact hSt
 obtain⟨H3,hH3⟩:=Qaj ((H1.set tr AObj.none++[AObj.uarr 162 5 ((σ.tr.eraseIdx i).map Mail.c)]).set o (.cells (xG nb p A q ef (H.length+1) σ.nds.length (σ.tr.eraseIdx i).length σ.efs.length)))
 have hl3:H3.length=H.length+2:=W;have hot3:∀j,j<H.length->j≠o->j≠tr->H3[j]?=H[j]?:=λj hj O U=>by grind
 have sD:H3[H.length]?=some (.cells m.c):=W;have S3:SysH hN nb p A H3 o q ef (H.length+1) ks (HC m σ i 0):=by
  refine my.upT (T:=σ.tr.eraseIdx i) ?_ ?_ (by have:=my.lo.1;omega) hot3
  .grind
  rw[<-hH3,gv J,gz (by simp[aG])];simp[aG]
 have hu1:hUnder (H.length+2) H1=true:=by rw[<-lW,z8 Q];simp[hUnder,Mail.c,AObj.under,V.under,q9]
 have hu3:hUnder (H.length+2) H3=true:=by
  rw[<-hH3];refine Go.Abs.wh ?_ ?_
  .rw[xh,Go.Abs.wh hu1 rfl];simp[hUnder,AObj.under]
  exact Qex
 have hf3:∀j,j<hN->H3[j]?=H[j]?:=λj hj=>by have:=my.lo;exact hot3 j J J J
 simp-dsimp[go_sem,B,Ac,hSt,hSo1,hSt1,hmc,hm,aN];refine⟨J,?_⟩;have hH1':H++[AObj.cells [I m.txn,I m.frm,I m.to,V.slice (m.keys.map ny),V.slice (m.prs.map Pr.c)]]=H1:=lW;rw[hH1'];refine se hdel ?_;obtain⟨H2,hH2⟩:=Qaj (H1.set tr AObj.none++[AObj.uarr 162 5 ((σ.tr.eraseIdx i).map Mail.c)])
 rw[hH2]at hH3;rw[hH2];have lX:H2.length=H.length+2:=W;have pQ:H2[o]?=some (.cells (xG nb p A q ef tr σ.nds.length σ.tr.length σ.efs.length)):=W;have hso:∀X,(H2.set o X)[o]?=some X:=λX=>ji J;have oZ:∀X,(H2.set o X)[q]?=some (.oarr 97 1 (ks.map λk=>[.ptr k.c 0])):=λX=>by rw[gv (Ne.symm ne1),<-hH2,gu W,gv ne5,<-lW,gu l2,my.hq]
 have oF:=my.len;have hql:q<H.length+2:=J;rintro r Y ⟨rfl,rfl⟩;simp-dsimp[go_sem,B,pQ,hso,oZ,oF];refine u4 (α:=mz) σ.nds.length (λn X=>SysH hN nb p A X o q ef (H.length+1) ks (HC m σ i n)/\X[H.length]?=some (.cells m.c)/\(∀j,j<hN->X[j]?=H[j]?)/\X.length=H.length+2/\hUnder (H.length+2) X=true) (λn X=>⟨[(6,.ptr H.length 0),(30,.own q σ.nds.length),(31,I σ.nds.length),(32,I n)],X⟩) H3 ⟨S3,sD,hf3,hl3,hu3⟩ (Wk.mk W (by rw[<-hH3];exact hwk.refl _) W (by simp[go_sem,hl3];omega)) ?_;rintro n X hn ⟨SX,rJ,hXf,pT,hXu⟩;have hw:=oi hn J;have hXo:=SX.ho;have hXq:=SX.hq;refine nf (λhc=>?_) (λhc=>?_)
 .have hkl:n<ks.length:=by rw[my.len];exact hc
  have dG:ks[n]?=some ks[n]:=ii hkl;obtain⟨k,hk⟩:=Qaj (ks[n])
  rw[hk]at dG;have hxg:=U6 (y5 m) σ.nds hc;obtain⟨x,hx⟩:=Qaj (σ.nds[n])
  rw[hx]at hxg;have N:=SX.nd n k x dG hxg;have hXn:=N.hc;have xg:=N.hi;have r7:=qmi (y5 m) σ.nds hc;rw[hx]at r7;simp-dsimp[go_sem,B,hXq,hkl,hk,hc,oF];refine pf 7 ?_;simp-dsimp[go_sem,B,hXn,rJ,Mail.c];refine ox (λhg=>?_) (λhg=>?_)
  .have mE:x.inbox.length<68719476736:=hib x (hx▸ij hc);obtain⟨tE,nk2,nk3,nk4⟩:=SX.nn dG hxg dG hxg;obtain⟨lk1,lk2,lk3,lk4⟩:=N.lt;have hXn2:∀h',(X.set k.ib h')[k.c]?=some (.cells (wP x k)):=λh'=>by rw[gv (Ne.symm tE.1)];exact hXn
   have hlk:=SX.lk k (gw dG);obtain⟨X1,qJ⟩:=Qaj ((X.set k.ib (.arr 162 5 ((x.inbox++[m]).map Mail.c))).set k.c (.cells (wP (y5 m x) k)))
   have hdx:y5 m x=⟨x.node,x.prs,x.tab,x.inbox++[m],x.sent,x.exd⟩:=by grind[y5]
   have hX1l:X1.length=H.length+2:=W;have qx:∀j,j≠k.c->j≠k.ib->X1[j]?=X[j]?:=λj O U=>by rw[<-qJ,gv (Ne.symm O),gv (Ne.symm U)]
   have hX1u:hUnder (H.length+2) X1=true:=by rw[<-qJ];refine Go.Abs.wh (Go.Abs.wh hXu rfl) ?_;rw[hdx];exact Qex
   have hcx:H.length≠k.c/\H.length≠k.ib:=⟨λe=>by rw[<-e,rJ]at hXn;simp[Mail.c,wP]at hXn,λe=>by rw[<-e,rJ]at xg;cases xg⟩
   have SX1:SysH hN nb p A X1 o q ef (H.length+1) ks (HC m σ i (n+1)):=by
    have:=SX.upN (H':=X1) (x':=y5 m x) dG hxg (λj _ O U _ _=>qx j O U) ?_
    .grind
    rw[<-qJ,hdx];refine⟨ji W,?_,?_,?_⟩
    .grind
    .rw[gv tE.2.1,gv nk2.2.1];exact N.hs
    rw[gv tE.2.2,gv nk2.2.2];exact N.hx
   refine xQ 8 7 [0] mixed ah ?_;simp-dsimp[go_sem,B,hXn,rJ,xg,hXn2,Mail.c];refine⟨J,J,X1,⟨SX1,by rw[qx _ hcx.1 hcx.2];exact rJ,λj hj=>by rw[qx _ J J];exact hXf j hj,hX1l,hX1u⟩,Wk.mk W ?_ W (by simp[go_sem,hX1l,hw];omega)⟩;rw[<-qJ,hdx];simp only[jr,wP,it,lj];exact hwk.refl _
  refine Qaa ?_;have hm:y5 m x=x:=by grind[y5]
  refine⟨J,X,⟨?_,rJ,hXf,pT,hXu⟩,?_⟩
  .simp_all[HC,fM]
  exact Wk.mk W (hwk.refl _) W bx
 refine M ?_;have hn:n=σ.nds.length:=J;subst hn;refine⟨_,.refl _,X,ca,hwk.refl _,?_,?_,rfl,⟨H.length+1,?_⟩,hXf⟩
 .omega
 .grind
 grind
end
section
variable {hN:Nat} {nb:List Proc} {p:Plc} {A:List Txn} {H H':mz} {o q ef tr:Nat} {ks:List NK} {σ:Sy}
def YX(my:SysH hN nb p A H o q ef tr ks σ){i t:Nat}(hi:i<σ.nds.length)(ht:t<A.length)(hls:t<σ.nds[i].sent.length)(htr:σ.tr.length+16<=68719476736)(hv:kV σ.nds[i].tab=true)(hl:σ.nds[i].tab.glob.length<68719476736)(hq:σ.nds[i].tab.qs.length<68719476736)(G:∀x∈σ.nds[i].tab.qs,x.reqs.length<68719476736) :
  ACalls prog 60 [P0 o,I i,I t] H λr Y=>r=.ret (.tuple [])/\SysH hN nb p A Y o q ef tr ks (we pw nb p A σ (.send i t))/\(∀j,j<hN->Y[j]?=H[j]?):=by
 obtain⟨k,hk,N⟩:=my.node hi;have hx:σ.nds[i]?=some σ.nds[i]:=ii hi;have hd:we pw nb p A σ (.send i t)=⟨σ.nds.set i (wg p A σ.nds[i] t),σ.tr++fU p σ.nds[i].node σ.nds[i].prs t (pc A t),σ.efs⟩:=by simp only[we,hx];rfl
 rw[hd];obtain⟨x,aJ⟩:=Qaj (σ.nds[i])
 rw[aJ]at hx N hls hv hl hq G|-;have tq:i<ks.length:=W;have dG:ks[i]=k:=W;have Ac:=my.ho;have hSq:=my.hq;have oF:=my.len;refine s8 func60 ntmps60 λE B hh Q hb nl qb=>?_;simp-dsimp[go_sem,B,Ac,hSq,N.hc,N.hs,hi,tq,dG,hls,oF,rS];obtain⟨x1,rF⟩:∃x1:Nd,x1=⟨x.node,x.prs,x.tab,x.inbox,x.sent.set t true,x.exd⟩:=⟨_,rfl⟩
 obtain⟨H1,lW⟩:∃H1,H1=H.set k.sd (.uarr 4 1 ((x.sent.map rS).set t [.val (.bool true)])):=⟨_,rfl⟩
 obtain⟨tE,nk2,nk3,nk4⟩:=my.nn hk hx hk hx;obtain⟨lk1,lk2,lk3,lk4⟩:=N.lt;have wL:∀j,j≠k.sd->H1[j]?=H[j]?:=λj hj=>by rw[lW,gv (Ne.symm hj)]
 have N1:NdH H1 k x1:=by
  rw[rF];refine⟨?_,?_,?_,?_⟩
  .rw[wL _ tE.2.1,N.hc];simp
  .rw[wL _ nk2.2.1,N.hi]
  .rw[lW,ji lk3,qiq];rfl
  rw[wL _ nk4.2.2,N.hx]
 have S1:=my.upN (H':=H1) hk hx (λj _ _ _ h3 _=>wL j h3) N1;have aG:H1.length=H.length:=W;have hS1o:=S1.ho;have hS1t:=S1.ht;rw[<-lW];have hft:=yV ht;have tj:(fU p x.node x.prs t (pc A t)).length<=16:=by grind[ka,fU,Ir]
 have hN1c:=N1.hc;rw[rF]at hN1c;have Hs:=UX p ⟨x.node,x.prs⟩ t (pc A t);simp only at Hs;obtain⟨PA,hM⟩:=Qaj (fU p x.node x.prs t (pc A t))
 rw[hM]at Hs tj|-;rw[hft]at Hs;obtain⟨l1,l2,l3,l4⟩:=S1.lt;obtain⟨ne1,ne2,ne3,ne4,ne5,ne6⟩:=S1.ne;have hS1o2:∀X,(H1.set tr X)[o]?=H1[o]?:=λX=>gv ne3;obtain⟨H2,hH2⟩:=Qaj ((H1.set tr (.uarr 162 5 (σ.tr.map Mail.c++PA.map Mail.c))).set o (.cells (xG nb p A q ef tr σ.nds.length (σ.tr.length+PA.length) σ.efs.length)))
 have lX:H2.length=H.length:=W;have bQ:∀j,j<hN->H2[j]?=H[j]?:=λj hj=>by have O:=my.lo;have U:=my.lk k (gw hk);rw[<-hH2,gv J,gv J,wL j J]
 have hfr2:=bQ;have S2:SysH hN nb p A H2 o q ef tr ks ⟨σ.nds.set i x1,σ.tr++PA,σ.efs⟩:=by
  refine S1.upT (T:=σ.tr++PA) ?_ ?_ S1.lo.2.2.2 λj hj O U=>?_
  .rw[<-hH2,ji W];simp
  .grind
  grind
 have hx2:(⟨σ.nds.set i x1,σ.tr++PA,σ.efs⟩:Sy).nds[i]?=some x1:=ji hi;have hN2c:=(S2.nd i k _ hk hx2).hc;rw[rF]at hN2c;have hu1:hUnder H.length H1=true:=by rw[lW];exact Go.Abs.wh Q rfl
 have hu2:hUnder H.length H2=true:=by rw[<-hH2];refine Go.Abs.wh (Go.Abs.wh hu1 rfl) ?_;exact Qex
 have hte:t<(jY p A).length:=by grind[KW]
 have hexg:=KF (p:=p) ht hte;have hex:∀X,X=H2->ACalls prog 62 [P0 o,P0 k.c,I t] X λr Y=>r=.ret (Bo (wn (sj p (pc A t)) x.node))/\Y=H2:=by rintro _ rfl;rw[<-hexg];exact Q8 S2.ho (.inl rfl) hN2c hte
 refine xQ 23 22 [0] mixed ah ?_;simp-dsimp[go_sem,B,hS1o,hN1c,ht];refine p7 Hs Z ?_;simp-dsimp[go_sem,B,hS1o,hS1t,hS1o2];refine⟨J,?_⟩;refine se (hex _ hH2) ?_;rintro r Y ⟨rfl,rfl⟩;refine nf (λhg=>?_) (λhg=>?_)
 .refine M ?_;refine se (G2 (o:=o) (t:=t) hN2c hv hl hq G) ?_;rintro r Y ⟨rfl,rfl⟩;refine M ?_;have S3:=S2.upN (H':=Y.set k.c (.cells [I x.node,.slice (x.prs.map Pr.c),.slice ((relS x.tab t).glob.map LReq.c),.slice ((relS x.tab t).qs.map LQ.c),.own k.ib x.inbox.length,.own k.sd (x.sent.set t true).length,.own k.xd x.exd.length])) (x':=wg p A x t) hk hx2 (λj _ O _ _ _=>by rw[gv (Ne.symm O)]) ?_
  .refine⟨_,.refl _,_,ca,hwk.refl _,by simp[lX],?_,rfl,?_,λj hj=>?_⟩
   .rw[mr,lX];refine Go.Abs.wh hu2 ?_;simp[AObj.under,q9,V.under,lX,lk2,lk3,lk4]
   .simp_all
   rw[gv (by have:=(my.lk k (gw hk)).1;omega)];exact hfr2 j hj
  have N2:=S2.nd i k _ hk hx2;have e:wg p A x t=⟨x.node,x.prs,relS x.tab t,x.inbox,x.sent.set t true,x.exd⟩:=by grind[wg]
  rw[rF]at N2;rw[e];refine⟨ji N2.lt.1,?_,?_,?_⟩
  .rw[gv tE.1];exact N2.hi
  .rw[gv tE.2.1];exact N2.hs
  rw[gv tE.2.2];exact N2.hx
 have e:wg p A x t=x1:=by unfold wg;rw[gh hg,rF]
 rw[e];refine M ?_;exact⟨_,.refl _,_,ca,hwk.refl _,by rw[lX];exact gj _,by rw[lX];exact hu2,rfl,S2,hfr2⟩
end
section
variable{p:Plc}{l:List Shard}
def L5(h:l.length≠(uk p).length):mJ p l=false:=by rw[l8];intro hh;obtain⟨_,U,_⟩:=El.1 hh;exact h W
theorem Nt{x:Shard}{y:Int}{ns:List Int}:(decide ((x::l).map (·.node)=y::ns)&&(x::l).all (mK p))=(decide (x.node=y)&&mK p x&&(decide (l.map (·.node)=ns)&&l.all (mK p))):=W
def WW{l:List Pr}{n:Int}:(wc p l n).length=l.length↔l.all (λq=>decide (sg p q.key=n))=true:=by simp[List.length_filter_eq_length_iff,jk,wc]
def LW(p:Plc)(l:List Shard):APure prog 10 [.agg p.c,.slice (l.map Shard.c)] (Bo (mJ p l)):=by
 have xc:=uR p;have ug:=AO p;obtain⟨R,hR⟩:=Qaj (mJ p l)
 have oy:=L5 (p:=p) (l:=l);rw[hR]at oy|-;unfold mJ at hR;obtain⟨v,hv⟩:=Qaj (qw p)
 rw[hv]at hR ug;obtain⟨ns,hns⟩:=Qaj (uk p)
 have AZ:=Dp p;rw[hns]at hR oy xc AZ;refine od func10 ntmps10 λE h B hh Q hb=>?_;simp[go_sem,Plc.c]at hb;simp-dsimp[go_sem,B,Plc.c];refine nc AZ (M ?_);refine nc ug ?_;refine nf (λL=>?_) (λL=>?_)
 .have:R=false:=by
   rcases L with rfl|L
   .grind
   grind
  subst this;exact Qek
 obtain⟨rfl,O⟩:=L;have O:l.length=ns.length:=J;rw[jb]at hR;simp-dsimp[go_sem,B,Plc.c];refine po l.length (λn=>(decide ((l.drop n).map (·.node)=ns.drop n)&&(l.drop n).all (mK p))=R) (λn=>⟨[(2,.ptr h.length 0),(5,.slice (ns.map qe)),(20,.slice (l.map Shard.c)),(21,I l.length),(22,I n)],h++[.cells [I p.ver,.slice (p.parts.map Part.c)]]⟩) W ng ?_
 intro n hn z;have hw:=oi hn (show l.length<=68719476736 by omega);refine nf (λhc=>?_) (λhc=>?_)
 .have sq:n<ns.length:=J;rw[ov hc,ov sq,Nt]at z;have nK:=WW (p:=p) (l:=l[n].prs) (n:=l[n].node);obtain⟨X,hX⟩:=Qaj (l[n])
  rw[hX]at z nK;obtain⟨h1,hO⟩:=Qaj (wc p X.prs X.node)
  have howned:=Le p X.prs X.node hv;rw[hO]at nK howned;simp-dsimp[go_sem,B,hc,sq,hX];refine pf 24 ?_;simp-dsimp[go_sem,B,hc,sq,hX,qe];refine p7 (zW X.prs) (λhh=>l9 hh) (M ?_);refine p7 howned Z ?_;refine nf (λhg=>?_) (λhg=>?_)
  .have:(decide (X.node=ns[n])&&mK p X)=false:=by
    unfold mK;rcases hg with(hg|hg)|hg
    .simp[hg]
    .simp[hg]
    grind
   rw[this,ly]at z;exact Qes
  have:(decide (X.node=ns[n])&&mK p X)=true:=by unfold mK;rw[ki hg.1.1,hg.1.2,nK.1 J];rfl
  rw[this,jb]at z;rw[lz]at z;exact Qfx
 exact Qhd
abbrev oL(l:List Shard):Nat:=(l.map λx=>x.prs.length).sum
def qk2{n:Nat}(h:n<l.length):oL (l.take (n+1))=oL (l.take n)+l[n].prs.length:=by unfold oL;rw[jn h,jr,List.sum_append];simp
def ZM(l:List Shard)(n:Nat):oL (l.take n)<=oL l:=by
 unfold oL
 conv=>rhs;rw[<-me n l]
 rw[jr,List.sum_append];omega
end
