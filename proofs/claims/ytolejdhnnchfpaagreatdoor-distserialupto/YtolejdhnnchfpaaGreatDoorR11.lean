/- Part 11 of a proof. -/
import Derived.Lib.ItoaLen
import Derived.Test.YtolejdhnnchfpaaGreatDoorR10
set_option linter.all false
set_option maxRecDepth 100000
set_option maxHeartbeats 4000000
namespace Go.Cw
open Go Go.Abs
section
abbrev ui:=List (na×Int)
def subV(a b:ui):Prop:=∀k ty,pb a k=some ty->pb b k=some ty
theorem subV.refl(a:ui):subV a a:=λ_ _ h=>h
def subV.trans{a b c:ui}(h:subV a b)(g:subV b c):subV a c:=λk ty e=>g k ty (h k ty e)
def uo{α:Type}(l:List (na×α)):List na:=l.map (·.1)
theorem sM{α:Type}:∀{l:List (na×α)} {k:na},pb l k=none↔k∉uo l
 | [],k=>by simp[pb,uo]
 |p::l,k=>by have ih:=sM (l:=l) (k:=k);grind[pb,uo]
theorem rT{α:Type}:∀(l:List (na×α)) (k:na) (v:α) (x:na),x∈uo (qc l k v)↔x=k\/x∈uo l
 | [],k,v,x=>by simp[qc,uo]
 |p::l,k,v,x=>by have ih:=rT l k v x;grind[qc,uo]
def Q2{α:Type}:∀(l:List (na×α)) (k:na) (v:α),(uo l).Nodup->(uo (qc l k v)).Nodup
 | [],k,v,_=>by simp[qc,uo]
 |p::l,k,v,h=>by
  have Y:p.1∉uo l/\(uo l).Nodup:=l7.1 h;rw[qc];split
  .rename_i e;subst e;exact h
  rename_i e;refine l7.2 ⟨λhm=>?_,Q2 l k v Y.2⟩;rcases(rT l k v _).1 hm with e'|hm
  .exact e e'
  grind
theorem G6{α:Type}:∀(l:List (na×α)) (k:na),(oK l k).Sublist l
 | [],_=>by simp[oK]
 |p::l,k=>by
  rw[oK];split
  .simp
  simp[G6]
def Qo{α:Type}:∀{l:List (na×α)} {k:na} {v:α},(uo l).Nodup->(k,v)∈l->pb l k=some v
 |p::l,k,v,hd,h=>by
  have zn:p.1∉uo l/\(uo l).Nodup:=l7.1 hd;rw[pb];rcases iq.1 h with rfl|h
  .simp
  rw[gg]
  .exact Qo zn.2 h
  intro e;exact zn.1 (ig.2 ⟨(k,v),h,e.symm⟩)
structure TOk(ts:TS):Prop where
 nod:(uo ts.visible).Nodup
 sub:subV ts.visible ts.all
def TOk.del{ts:TS}(h:TOk ts)(k:na):TOk ⟨oK ts.visible k,ts.loops,ts.all⟩:=⟨h.nod.sublist ((G6 _ _).map _),λx ty e=>h.sub x ty (by have:=(G6 ts.visible k).subset (zK e);exact Qo h.nod this)⟩
def TOk.dels(b:List (na×Bool))(a:ui):∀(l:List St) {vis:ui},TOk ⟨vis,b,a⟩->TOk ⟨rN l vis,b,a⟩
 | [],vis,h=>h
 |t::l,vis,h=>by
  rw[rN];refine TOk.dels b a l ?_;split
  .exact h.del t.name
  exact h
theorem TOk.set{ts:TS}(h:TOk ts)(k:na)(ty:Int)(lp:List (na×Bool)):TOk ⟨qc ts.visible k ty,lp,qc ts.all k ty⟩:=⟨Q2 _ _ _ h.nod,λx u e=>by
 simp only at e|-;rw[iO]at e|-;split at e
 .grind
 rename_i hk;rw[gg hk];exact h.sub x u e⟩
mutual
def qZ:St->List na
 | .mk op name _ _ _ body els=>(if op=1\/op=6 then [name]else [])++(vg body++vg els)
def vg:List St->List na
 | []=>[]
 |t::l=>qZ t++vg l
end
section
variable{ts nY:TS}{ns:List na}
theorem zY(t:St):qZ t=(if t.op=1\/t.op=6 then [t.name]else [])++(vg t.body++vg t.els):=by cases t;rw[qZ];rfl
structure TGo(ns:List na)(ts nY:TS):Prop where
 ok:TOk nY
 mono:subV ts.all nY.all
 keys:∀k,k∈uo nY.all->k∈uo ts.all\/k∈ns
theorem TGo.refl(h:TOk ts)(ns:List na):TGo ns ts ts:=⟨h,.refl _,λ_ h=>.inl h⟩
def TGo.mono'{ns':List na}(h:TGo ns ts nY)(hn:∀k∈ns,k∈ns'):TGo ns' ts nY:=⟨h.ok,h.mono,λk hk=>(h.keys k hk).imp id (hn k)⟩
def TGo.trans{a b:List na}{s t u:TS}(h:TGo a s t)(g:TGo b t u):TGo (a++b) s u:=⟨g.ok,h.mono.trans g.mono,λk hk=>by
 rcases g.keys k hk with hk|hk
 .rcases h.keys k hk with hk|hk
  .grind
  grind
 exact .inr fq⟩
def fresh(ns:List na)(ts:TS):Prop:=ns.Nodup/\∀k∈ns,k∉uo ts.all
theorem TGo.set(h:TOk ts){k:na}(hk:k∉uo ts.all)(ty:Int)(lp:List (na×Bool)):TGo [k] ts ⟨qc ts.visible k ty,lp,qc ts.all k ty⟩:=⟨h.set k ty lp,λx u e=>by
 simp only;rw[iO];split
 .rename_i hx;subst hx;rw[sM.2 hk]at e;cases e
 .exact e,λx hx=>by
 rcases(rT _ _ _ _).1 hx with h|h
 .exact .inr cn
 exact .inl h⟩
theorem fresh.left{a b:List na}(h:fresh (a++b) ts):fresh a ts:=⟨(qjb.1 h.1).1,λk hk=>h.2 k fq⟩
theorem fresh.right{a b:List na}(h:fresh (a++b) ts)(g:TGo a ts nY):fresh b nY:=⟨(qjb.1 h.1).2.1,λk hk hm=>by
 rcases g.keys k hm with hm|hm
 .exact h.2 k fq hm
 exact(qjb.1 h.1).2.2 k hm k hk rfl⟩
theorem TGo.blk{l:List St}{f:TS->Int×TS}(hf:(f ts).1=0->TGo ns ts (f ts).2)(L:(wy l f ts).1=0):TGo ns ts (wy l f ts).2:=by
 unfold wy at L|-;split at L
 .omega
 rename_i h;rw[gg h];have g:=hf J;exact⟨TOk.dels _ _ l (vis:=(f ts).2.visible) g.ok,g.mono,g.keys⟩
def WT(t:St)(hN E:TS->Int×TS)(ts:TS)(h:TOk ts)(hf:fresh (qZ t) ts)
  (hB:∀ts,TOk ts->fresh (vg t.body) ts->(hN ts).1=0->TGo (vg t.body) ts (hN ts).2)
  (hE:∀ts,TOk ts->fresh (vg t.els) ts->(E ts).1=0->TGo (vg t.els) ts (E ts).2)
  (L:(uC t hN E ts).1=0):TGo (qZ t) ts (uC t hN E ts).2:=by
 rw[zY]at hf|-;unfold uC at L|-;by_cases he:(sf ts.visible t).2.2≠0
 .grind
 rw[gg he]at L|-;by_cases O:t.op=1
 .rw[gh O]at L|-;rw[gh (.inl O)]at hf|-;exact(TGo.set h (hf.2 t.name Z) _ _).mono' (λk hk=>by simp at hk;simp[hk])
 rw[gg O]at L|-;by_cases U:t.op=2
 .rw[gh U];rcases pb ts.visible t.name with _|ty
  .exact .refl h _
  exact .refl h _
 rw[gg U]at L|-;by_cases h3:t.op=3
 .rw[gh h3];exact .refl h _
 rw[gg h3]at L|-;by_cases h4:t.op=4
 .rw[gh h4];exact .refl h _
 rw[gg h4]at L|-;by_cases h7:t.op=7
 .rw[gh h7];exact .refl h _
 rw[gg h7]at L|-;by_cases h5:t.op=5
 .rw[gh h5]at L|-;by_cases h6:(sf ts.visible t).1≠3
  .grind
  rw[gg h6]at L|-;by_cases h8:(wy t.body hN ts).1≠0
  .grind
  rw[gg h8]at L|-;rw[gg J,ke]at hf|-;have g1:=TGo.blk (l:=t.body) (λg=>hB ts h hf.left g) J;have g2:=TGo.blk (l:=t.els) (λg=>hE _ g1.ok (hf.right g1) g) L;exact g1.trans g2
 rw[gg h5]at L|-;by_cases h6:t.op=6
 .rw[gh h6]at L|-;by_cases h8:(sf ts.visible t).1≠1\/(sf ts.visible t).2.1≠1
  .grind
  rw[gg h8]at L|-;rw[gh (.inr h6)]at hf|-;have g0:=TGo.set h (hf.2 t.name Z) 1 (qc ts.loops t.name true);have g1:=TGo.blk (l:=t.body) (λg=>hB _ g0.ok (hf.right g0).left g) L;have g2:=g0.trans g1;exact⟨g1.ok.del t.name,g2.mono,λk hk=>by
   rcases g2.keys k hk with hk|hk
   .grind
   refine .inr ?_;simp only[jj]at hk|-;rcases hk with hk|hk
   .exact .inl hk
   exact .inr (.inl hk)⟩
 rw[gg h6];exact .refl h _
end
mutual
theorem C8:∀(t:St) (ts:TS),TOk ts->fresh (qZ t) ts->(bY t ts).1=0->TGo (qZ t) ts (bY t ts).2
 | .mk op name mx a b body els,ts,h,hf,L=>by rw[BO]at L|-;exact WT (.mk op name mx a b body els) _ _ ts h hf (λts=>kY body ts) (λts=>kY els ts) L
theorem kY:∀(l:List St) (ts:TS),TOk ts->fresh (vg l) ts->(sw l ts).1=0->TGo (vg l) ts (sw l ts).2
 | [],ts,h,hf,L=>by rw[sw];exact .refl h _
 |t::l,ts,h,hf,L=>by
  rw[sw]at L|-;rw[vg]at hf|-;split at L
  .omega
  rename_i he;rw[gg he];have g1:=C8 t ts h hf.left J;exact g1.trans (kY l _ g1.ok (hf.right g1) L)
end
def Hc(hr:ui)(s:MS):Prop:=∀k v ty,pb s.vars k=some v->pb hr k=some ty->v.k=ty
def u9(op:Int):Int:=if 10<=op/\op<=15 then 3 else(ux op).2
theorem MY{r:Int×Int}{v:AV}(h:yz r=.ok v):v.k=1:=by
 unfold yz at h;split at h
 .cases h;rfl
 grind
def Jc{s:na}{v:AV}(h:dR s=.ok v):v.k=2:=by
 unfold dR at h;split at h
 .cases h
 cases h;rfl
section
variable {C:Cfg}
def Vb{op:Int}{l:List AV}{s t:MS}{v:AV}(bJ:(l.length:Int)=uv op)(h:bG C op l s=(.ok v,t)):v.k=u9 op:=by
 have hy:∀{x:EV} {u:MS},(x,u)=((.ok v,t):EV×MS)->x=.ok v:=λh=>congrArg Prod.fst h;unfold bG at h;split at h
 .rename_i a;have p8:op=9\/op=18\/op=20\/op=21\/op=22\/op=23\/op=24:=fg;rcases p8 with rfl|rfl|rfl|rfl|ho
  .have e:zt C 9 a s=(if a.k=1 then yz (eF a.n)else .error (ab 1009),s):=rfl;rw[e]at h;have h:=hy h;split at h
   .exact MY h
   cases h
  .have e:zt C 18 a s=(if a.k=3 then .ok (vB (decide (a.n=0)))else .error (ab 1009),s):=rfl;rw[e]at h;have h:=hy h;split at h
   .cases h;rfl
   cases h
  .have e:zt C 20 a s=(if a.k=1 then dR (C.fmt a.n)else .error (ab 1009),s):=rfl;rw[e]at h;have h:=hy h;split at h
   .exact Jc h
   cases h
  .have e:zt C 21 a s=(if a.k=2 then .ok (vI a.s.size)else .error (ab 1009),s):=rfl;rw[e]at h;have h:=hy h;split at h
   .cases h;rfl
   cases h
  unfold zt at h;rw[gg J,gg J,gg J,gg J]at h;by_cases hk:a.k≠2
  .grind
  rw[gg hk]at h;rcases hx:y4 C a.s s with⟨hI|w,m'⟩
  .grind
  rw[hx]at h;have h:=hy h;rcases ho with rfl|rfl|rfl
  .have e:dO 22 w=if w.k=0 then .ok (vI 0)else if w.k≠1 then .error (ab 1003)else .ok w:=by simp[dO]
   rw[e]at h;split at h
   .cases h;rfl
   split at h
   .cases h
   rename_i U;have hv:w=v:=W;have:w.k=1:=J;rw[<-hv,this];rfl
  .have e:dO 23 w=if w.k=0 then dR em else if w.k≠2 then .error (ab 1003)else .ok w:=by simp[dO]
   rw[e]at h;split at h
   .exact Jc h
   split at h
   .cases h
   rename_i U;have hv:w=v:=W;have:w.k=2:=J;rw[<-hv,this];rfl
  have e:dO 24 w=.ok (vB (!decide (w.k=0))):=by simp[dO]
  rw[e]at h;cases h;rfl
 .rename_i a b;have g:=hy h;clear h hy;have p8:(4<=op/\op<=8)\/(10<=op/\op<=17)\/op=19:=fg;unfold zu at g;by_cases ho:op=4\/op=5\/op=6\/op=7\/op=8
  .grind[u9,ux,fF,MY]
  rw[gg ho]at g;by_cases h16:op=16
  .rw[gh h16]at g;rw[h16];split at g
   .cases g;rfl
   cases g
  rw[gg h16]at g;by_cases gA:op=17
  .rw[gh gA]at g;rw[gA];split at g
   .cases g;rfl
   cases g
  rw[gg gA]at g;by_cases eY:op=19
  .rw[gh eY]at g;rw[eY];split at g
   .exact Jc g
   cases g
  rw[gg eY]at g;unfold wR at g;split at g
  .cases g;unfold u9;rw[gh J];rfl
  cases g
 cases h
def qlb{hr vis:ui}(bH:subV vis hr){e:Ex}{d:Nat}{ty:Int}(hc:te e d=0)(hof:ofE vis e=(ty,0)){s t:MS}{v:AV}(hT:Hc hr s)(h:rp C e s=(.ok v,t)):v.k=ty/\1<=ty/\ty<=3:=by
 have bJ:=Ad hc;rw[xC]at hof;rw[Ry]at h;have hk:∀(op:Int),1<=(ux op).2/\(ux op).2<=3:=λop=>by grind[ux]
 by_cases h3:e.op=3
 .rw[gh h3]at hof;rw[gg J,gg J,gh h3]at h;have h:=congrArg Prod.fst h;simp only at h;split at h
  .rename_i w hw;cases h;unfold dH at hof;split at hof
   .cases hof
   rename_i u Q;split at hof
   .cases hof
   cases hof;exact⟨hT _ _ _ hw (bH _ _ Q),J,J⟩
  cases h
 rw[gg h3]at hof;split at hof
 .grind
 have hty:ty=u9 e.op:=by grind[u9]
 have G:1<=ty/\ty<=3:=W;refine⟨?_,G⟩;rw[hty];split at h
 .rename_i O;cases h;unfold u9 ux;rw[gg J,gh (.inl O)];rfl
 split at h
 .rename_i O;cases h;unfold u9 ux;rw[gg J,gg J,gh (.inl O)];rfl
 split at h
 .cases h
 rename_i l m' hL;exact Vb (by grind[DF]) h
end
end
section
def fC(body:RM->RM)(name:na)(b:Int):Nat->Int->RM->RM
 | 0,_,m=>m
 |f+1,i,m=>if i<b/\m.st=0 then(if (xz m).st=0 then fC body name b f (p9 (i+1)) (body { xz m with vars:=yj (xz m).vars ⟨name,vI i⟩ })else fC body name b f (p9 (i+1)) (xz m))else m
section
variable (C:Cfg)
mutual
def oD:St->RM->RM
 | .mk op name mx a b body els,m =>
  if op=8 then m.ab mx
  else if (pm C a m).2.st≠0 then(pm C a m).2
  else if op=1\/op=2 then { (pm C a m).2 with vars:=yj (pm C a m).2.vars ⟨name,(pm C a m).1⟩ }
  else if op=4 then kN C (pm C a m).2 (pm C a m).1.s AV.nil
  else if op=7 then qO (pm C a m).2 (pm C a m).1
  else if op=5 then(if (pm C a m).1.n=1 then u6 body (pm C a m).2 else u6 els (pm C a m).2)
  else if (pm C b (pm C a m).2).2.st≠0 then(pm C b (pm C a m).2).2
  else if op=3 then kN C (pm C b (pm C a m).2).2 (pm C a m).1.s (pm C b (pm C a m).2).1
  else if (pm C a m).1.n<(pm C b (pm C a m).2).1.n/\((aE (pm C b (pm C a m).2).1.n (pm C a m).1.n).2≠0\/mx<(aE (pm C b (pm C a m).2).1.n (pm C a m).1.n).1)then(pm C b (pm C a m).2).2.ab 1005
  else fC (λm=>u6 body m) name (pm C b (pm C a m).2).1.n ((pm C b (pm C a m).2).1.n - (pm C a m).1.n).toNat (pm C a m).1.n (pm C b (pm C a m).2).2
def u6:List St->RM->RM
 | [],m=>m
 |t::l,m=>if m.st≠0 then m else if (xz m).st=0 then u6 l (oD t (xz m))else u6 l (xz m)
end
end
theorem Di(C:Cfg):∀(l:List St) {m:RM},m.st≠0->u6 C l m=m
 | [],m,h=>by rw[u6]
 |t::l,m,h=>by rw[u6,gh h]
theorem EU{body:RM->RM}{name:na}{b:Int}:∀(f:Nat) (i:Int) {m:RM},m.st≠0->fC body name b f i m=m
 | 0,i,m,h=>by rw[fC]
 |f+1,i,m,h=>by rw[fC,gg (λg=>h g.2)]
theorem JY{body:MS->Except Stop Unit×MS}{name:na}{b:Int}:∀(f:Nat) {i:Int} {s:MS},¬i<b->vq body name b f i s=(.ok (),s)
 | 0,i,s,h=>by rw[vq]
 |f+1,i,s,h=>by rw[vq,gg h]
theorem HA{body:RM->RM}{name:na}{b:Int}:∀(f:Nat) {i:Int} {m:RM},¬i<b->fC body name b f i m=m
 | 0,i,m,h=>by rw[fC]
 |f+1,i,m,h=>by rw[fC,gg (λg=>h g.1)]
structure Pre(hr:ui)(r p:Nat)(s:MS)(m:RM):Prop where
 inv:Inv r p s
 vm:vM s
 ty:Hc hr s
 sim:Sim s m
def yO(hr:ui)(x:Except Stop Unit×MS)(m:RM):Prop:=match x.1 with
 | .ok _=>Pre hr 0 0 x.2 m
 | .error hI=>Dead hI x.2 m
theorem Rh{hr:ui}{s:MS}{k:na}{v:AV}(h:Hc hr s)(hk:∀ty,pb hr k=some ty->v.k=ty):Hc hr { s with vars:=qc s.vars k v }:=λx w ty hx hg=>by
 simp only at hx;rw[iO]at hx;split at hx
 .grind
 exact h x w ty hx hg
theorem Sim.set{s:MS}{m:RM}(h:Sim s m)(k:na)(v:AV):Sim { s with vars:=qc s.vars k v } { m with vars:=yj m.vars ⟨k,v⟩ }:=⟨λx=>by
 simp only;rw[iO,(C7 _ _ _).1,(C7 _ _ _).2];by_cases hx:k=x
 .simp[hx]
 simp[hx,h.vars x],h.own,h.keys,h.out,h.reads,h.puts,h.steps,h.st,h.code,h.miss⟩
section
variable {C:Cfg} (hV:vC C) (hC:bU C)
include hV hC
theorem Se{hr vis:ui}{e:Ex}{r p:Nat}{s:MS}{m:RM}(hg:Bd e)(hc:te e 1=0)(h:Pre hr (r+4095) p s m) :
  (∀hI s',rp C e s=(.error hI,s')->Dead hI s' (pm C e m).2) /\
  (∀v s',rp C e s=(.ok v,s')->(pm C e m).1=v/\Pre hr r p s' (pm C e m).2/\vu v/\r6 v/\∀ty,subV vis hr->ofE vis e=(ty,0)->v.k=ty/\1<=ty/\ty<=3):=by
 have hS:=Rn hV hC e 1 s m hc hg.1 h.vm h.inv.rng h.inv.ar h.sim;have z:=h.inv.eval hC (r:=r) hg;have hE:=nI hC e s hg.1 h.inv.rng h.inv.ar;refine⟨λhI s' hx=>?_,λv s' hx=>?_⟩
 .rw[hx]at hS;exact(show _/\Dead hI s' (pm C e m).2 from hS).2
 have hk:=G8 hV hC e 1 s s' v hc hg.1 h.vm h.inv.rng h.inv.ar hx;have ht:=λty (bH:subV vis hr) (ho:ofE vis e=(ty,0))=>qlb (C:=C) bH hc ho h.ty hx;rw[hx]at hS z hE;have hS:(pm C e m).1=v/\Sim s' (pm C e m).2:=hS;refine⟨hS.1,⟨z.1,sO hE.1 h.vm,?_,hS.2⟩,hk,z.2 v rfl,ht⟩;have:s'.vars=s.vars:=by have:=hE.1.eq;simp only at this;rw[this]
 intro k w ty hw hg;rw[this]at hw;exact h.ty k w ty hw hg
omit hV hC in
theorem NN{hr:ui}{s:MS}{m:RM}(h:Pre hr 0 0 s m):(∀hI s',xx s=(.error hI,s')->(xz m).st≠0/\Dead hI s' (xz m))/\(∀u s',xx s=(.ok u,s')->(xz m).st=0/\Pre hr 8192 1 s' (xz m)):=by
 have hS:=qro h.sim h.inv.st;refine⟨λhI s' hx=>?_,λu s' hx=>?_⟩
 .rw[hx]at hS;have hS:Dead hI s' (xz m):=hS;exact⟨qhu,hS⟩
 have hi:=h.inv.tick hx;have hv:s'.vars=s.vars/\s'.own=s.own:=by grind[xx]
 rw[hx]at hS;have hS:Sim s' (xz m):=hS;refine⟨hS.st,hi,⟨by rw[hv.1];exact h.vm.1,by rw[hv.2];exact h.vm.2⟩,λk w ty hw hg=>h.ty k w ty W hg,hS⟩
omit hV hC in
theorem Lr{hr:ui}{body:MS->Except Stop Unit×MS}{bodyR:RM->RM}{name:na}{b:Int}(hb64:i64 b)(hG:∀ty,pb hr name=some ty->ty=1)
  (hb:∀s m,Pre hr 8192 1 s m->yO hr (body s) (bodyR m)):∀(f g:Nat) (i:Int) (s:MS) (m:RM),i64 i->b - i<=f->b - i<=g->Pre hr 0 0 s m->yO hr (vq body name b f i s) (fC bodyR name b g i m)
 | 0,g,i,s,m,hi,O,U,h=>by rw[JY 0 J,HA g J];exact h
 |f+1,0,i,s,m,hi,O,U,h=>by rw[JY _ J,HA 0 J];exact h
 |f+1,g+1,i,s,m,hi,O,U,h=>by
  by_cases ni:i<b
  .obtain⟨t1,t2⟩:=NN h;rw[vq,gh ni,fC,gh ⟨ni,h.sim.st⟩];have hw:p9 (i+1)=i+1:=sK ez qg4;rcases hx:xx s with⟨hI|u,s'⟩
   .obtain⟨e1,e2⟩:=t1 _ _ hx;simp only;rw[gg e1,EU _ _ e1];exact e2
   obtain⟨e1,e2⟩:=t2 _ _ hx;simp only;rw[gh e1];have hp:Pre hr 8192 1 { s' with vars:=qc s'.vars name (vI i) } { xz m with vars:=yj (xz m).vars ⟨name,vI i⟩ }:=⟨e2.inv.vars (oV hi) name,⟨λq hq=>by
    rcases AY hq with rfl|hq
    .exact BX i
    exact e2.vm.1 q hq,e2.vm.2⟩,Rh e2.ty (λty hg=>(hG ty hg).symm),e2.sim.set name (vI i)⟩
   have hB:=hb _ _ hp;rcases hy:body { s' with vars:=qc s'.vars name (vI i) }with⟨hI|u',s''⟩
   .rw[hy]at hB;have hB:Dead hI s'' _:=hB;simp only;rw[EU _ _ (by rw[hB.st];exact hB.ne)];exact hB
   rw[hy]at hB;have hB:Pre hr 0 0 s'' _:=hB;simp only;rw[hw];exact Lr hb64 hG hb f g (i+1) s'' _ ⟨ez,qg4⟩ J J hB
  rw[JY _ ni,HA _ ni];exact h
end
theorem Zm{a b:Int}(ha:i64 a)(hb:i64 b)(h:a<b):((aE b a).2≠0\/(∀mx,mx<(aE b a).1↔mx<b - a))/\((aE b a).2≠0->9223372036854775807<b - a):=by
 obtain⟨a1,a2⟩:=ha;obtain⟨b1,b2⟩:=hb;have e:p9 (b - a)=if b - a<=9223372036854775807 then b - a else b - a - 18446744073709551616:=by unfold p9;simp only[IntKind.wrap,IntKind.bits,IntKind.signed,jb,jm,show(2:Int) ^ (64 - 1)=9223372036854775808 by decide,show(2:Int) ^ 64=18446744073709551616 by decide];split<;>split<;>omega
 unfold aE;rw[e];by_cases O:b - a<=9223372036854775807
 .grind
 grind
theorem XN{a b mx:Int}(ha:i64 a)(hb:i64 b)(O:1<=mx)(U:mx<=16):vP a b mx↔(a<b/\((aE b a).2≠0\/mx<(aE b a).1)):=by
 unfold vP;refine and_congr_right λh=>?_;have hn:=Zm ha hb h;have key:IntKind.u64.wrap mx<IntKind.u64.wrap (IntKind.u64.wrap b - IntKind.u64.wrap a)↔mx<b - a:=by obtain⟨a1,a2⟩:=ha;obtain⟨b1,b2⟩:=hb;exact Qdm
 rw[key];rcases hn.1 with h3|h3
 .omega
 grind
end
section
theorem RG(C:Cfg)(t:St)(m:RM):oD C t m =
  if t.op=8 then m.ab t.max
  else if (pm C t.a m).2.st≠0 then(pm C t.a m).2
  else if t.op=1\/t.op=2 then { (pm C t.a m).2 with vars:=yj (pm C t.a m).2.vars ⟨t.name,(pm C t.a m).1⟩ }
  else if t.op=4 then kN C (pm C t.a m).2 (pm C t.a m).1.s AV.nil
  else if t.op=7 then qO (pm C t.a m).2 (pm C t.a m).1
  else if t.op=5 then(if (pm C t.a m).1.n=1 then u6 C t.body (pm C t.a m).2 else u6 C t.els (pm C t.a m).2)
  else if (pm C t.b (pm C t.a m).2).2.st≠0 then(pm C t.b (pm C t.a m).2).2
  else if t.op=3 then kN C (pm C t.b (pm C t.a m).2).2 (pm C t.a m).1.s (pm C t.b (pm C t.a m).2).1
  else if (pm C t.a m).1.n<(pm C t.b (pm C t.a m).2).1.n/\((aE (pm C t.b (pm C t.a m).2).1.n (pm C t.a m).1.n).2≠0\/t.max<(aE (pm C t.b (pm C t.a m).2).1.n (pm C t.a m).1.n).1)then(pm C t.b (pm C t.a m).2).2.ab 1005
  else fC (u6 C t.body) t.name (pm C t.b (pm C t.a m).2).1.n ((pm C t.b (pm C t.a m).2).1.n - (pm C t.a m).1.n).toNat (pm C t.a m).1.n (pm C t.b (pm C t.a m).2).2:=by
 cases t;rw[oD];rfl
theorem Ik(C:Cfg){t:St}(h:t.op=6)(m:MS):vj C t m =
  match rp C t.a m with
  |(.error hI,m')=>(.error hI,m')
  |(.ok u,m')=>match rp C t.b m' with
   |(.error hI,qy)=>(.error hI,qy)
   |(.ok v,qy) =>
    if u.k=1/\v.k=1 then
     (if vP u.n v.n t.max then(.error (ab 1005),qy)else vq (re C t.body) t.name v.n 16386 u.n qy)
    else(.error (ab 1009),qy):=by
 cases t with
 |mk op name mx a b body els =>
  simp only[St.op]at h;subst h;rw[vj];simp;rfl
theorem Pre.mono{hr:ui}{r p r' p':Nat}{s:MS}{m:RM}(h:Pre hr r p s m)(O:r'<=r)(U:p'<=p):Pre hr r' p' s m:=⟨h.inv.mono O U,h.vm,h.ty,h.sim⟩
theorem D6{t:St}{d:Nat}(h:aC t d):t.op=1\/t.op=2\/t.op=3\/t.op=4\/t.op=5\/t.op=6\/t.op=7\/t.op=8:=by have O:=((dZ t d).1 h).1;grind[vz,bW]
section
variable {C:Cfg} (hV:vC C) (hC:bU C) {hr:ui}
include hV hC
theorem Rt{x:Except Stop Unit×MS}{s:MS}{m m':RM}{k:na}{v:AV}{r:Nat}(hx:x=yl C k v s)(h:Pre hr r 1 s m)(hw:iM v)(G:r6 v)(hm:m'=kN C m k v):yO hr x m':=by
 subst hx hm;have hS:=VP (C:=C) h.sim k v;rcases hy:yl C k v s with⟨hI|u,s'⟩
 .rw[hy]at hS;exact hS
 rw[hy]at hS;have hS:Sim s' _:=hS;have hv:s'.vars=s.vars:=by grind[yl]
 exact⟨(h.inv.store G hy).mono (il _) (gj _),JP hV hC h.vm hw hy,λk w ty hw hg=>h.ty k w ty W hg,hS⟩
theorem qof{s:MS}{m:RM}{v:AV}{r p:Nat}(h:Pre hr r p s m):yO hr (bO v s) (qO m v):=by
 have hS:=Tv h.sim h.inv.ot v;rcases hy:bO v s with⟨hI|u,s'⟩
 .rw[hy]at hS;exact hS
 rw[hy]at hS;have hS:Sim s' _:=hS;have hv:s'.vars=s.vars:=by grind[bO]
 exact⟨(h.inv.emit hy).mono (il _) (il _),Q7 hV hC h.vm hy,λk w ty hw hg=>h.ty k w ty W hg,hS⟩
theorem VU{t:St}{d:Nat}{ts:TS}{s:MS}{m:RM}(pg:aC t d)(hg:aR t)(hT:TOk ts)(hf:fresh (qZ t) ts)(L:(bY t ts).1=0)(bH:subV (bY t ts).2.all hr)(h:Pre hr 8192 1 s m)
  (hB:∀ts s m,TOk ts->fresh (vg t.body) ts->(sw t.body ts).1=0->subV (sw t.body ts).2.all hr->Pre hr 0 0 s m->yO hr (re C t.body s) (u6 C t.body m))
  (hE:∀ts s m,TOk ts->fresh (vg t.els) ts->(sw t.els ts).1=0->subV (sw t.els ts).2.all hr->Pre hr 0 0 s m->yO hr (re C t.els s) (u6 C t.els m)):yO hr (vj C t s) (oD C t m):=by
 have hgo:=(uO t).1 hg;have hTG:=C8 t ts hT hf L;have hvis:subV ts.visible hr:=hT.sub.trans (hTG.mono.trans bH);rw[zY]at hf;rw[BO]at L bH hTG;unfold uC at L bH;have p8:=D6 pg;by_cases he:(sf ts.visible t).2.2≠0
 .grind
 rw[gg he]at L bH;have he:(sf ts.visible t).2.2=0:=J;rw[RG];by_cases h8:t.op=8
 .rw[gh h8,yH];rw[gg J,gg J,gg J,gg J,gg J,gg J,gh h8];exact h.sim.ab _
 rw[gg h8];have hea:=Se hV hC (hr:=hr) (vis:=ts.visible) (r:=4097) (p:=1) (hgo.1 h8) (BB pg h8) h;have hta:(ofE ts.visible t.a).2=0:=fw;have hea1:ofE ts.visible t.a=((ofE ts.visible t.a).1,0):=W;have si:(sf ts.visible t).1=(ofE ts.visible t.a).1:=fw;rcases hx:rp C t.a s with⟨hI|u,s1⟩
 .have hD:=hea.1 hI s1 hx;rw[gh (by rw[hD.st];exact hD.ne)];have:vj C t s=(.error hI,s1):=by
   by_cases h6:t.op=6
   .grind[Ik]
   rw[yH,hx,gg h6,gg h8];grind
  rw[this];exact hD
 obtain⟨eu,hP,oku,rngu,htu⟩:=hea.2 u s1 hx;have hku:=htu _ hvis hea1;rw[gg (by rw[hP.sim.st];simp),eu];by_cases O:t.op=1\/t.op=2
 .rw[gh O];have r7:vj C t s=(.ok (),{ s1 with vars:=qc s1.vars t.name u }):=by grind[yH]
  rw[r7];have hG:∀ty,pb hr t.name=some ty->u.k=ty:=λty hg=>by
   rcases O with O|O
   .rw[gh O]at bH;have:=bH t.name (sf ts.visible t).1 (by simp[TS.decl,iO]);grind
   rw[gg J,gh O]at L;rcases hv:pb ts.visible t.name with _|ty'
   .grind
   rw[hv]at L;simp only at L;have:=hvis _ _ hv;grind
  exact⟨(hP.inv.vars rngu t.name).mono (il _) (il _),J1 hV hC t.name hP.vm oku,Rh hP.ty hG,hP.sim.set t.name u⟩
 rw[gg O];have jV:¬t.op=1:=λe=>O (.inl e);have jG:¬t.op=2:=λe=>O (.inr e);rw[gg jV,gg jG]at L bH;by_cases h4:t.op=4
 .rw[gh h4];rw[gg J,gh h4]at L;have vk:u.k=2:=J;refine Rt hV hC (k:=u.s) (v:=AV.nil) ?_ hP F6 E2 rfl;grind[yH]
 rw[gg h4];by_cases h7:t.op=7
 .grind[yH,qof]
 rw[gg h7];by_cases h5:t.op=5
 .rw[gh h5];rw[gg J,gg h4,gg h7,gh h5]at L bH;rw[gg J,ke]at hf;by_cases h6:(sf ts.visible t).1≠3
  .grind
  rw[gg h6]at L bH;have hk3:u.k=3:=J;by_cases h9:(wy t.body (sw t.body) ts).1≠0
  .grind
  rw[gg h9]at L bH;have qd:(sw t.body ts).1=0:=ff;have g1:=TGo.blk (l:=t.body) (λg=>kY t.body ts hT hf.left g) J;have rh:(sw t.els (wy t.body (sw t.body) ts).2).1=0:=by grind[hX,wy]
  have g2:=TGo.blk (l:=t.els) (λg=>kY t.els _ g1.ok (hf.right g1) g) L;have s1':subV (sw t.body ts).2.all hr:=by have:(wy t.body (sw t.body) ts).2.all=(sw t.body ts).2.all:=ff;rw[<-this];exact g2.mono.trans bH
  have s2':subV (sw t.els (wy t.body (sw t.body) ts).2).2.all hr:=by grind[hX,wy]
  have r7:vj C t s=if u.n=1 then re C t.body s1 else re C t.els s1:=by grind[yH]
  rw[r7];split
  .exact hB ts s1 _ hT hf.left qd s1' (hP.mono (il _) (il _))
  exact hE _ s1 _ g1.ok (hf.right g1) rh s2' (hP.mono (il _) (il _))
 rw[gg h5];have h36:t.op=3\/t.op=6:=J;have heb:=Se hV hC (hr:=hr) (vis:=ts.visible) (r:=2) (p:=1) (hgo.2.1 h36) (Bl pg h36) hP;have htb:(ofE ts.visible t.b).2=0:=fw;have heb1:ofE ts.visible t.b=((ofE ts.visible t.b).1,0):=W;have pQ:(sf ts.visible t).2.1=(ofE ts.visible t.b).1:=fw;rcases hy:rp C t.b s1 with⟨hI|v,s2⟩
 .have hD:=heb.1 hI s2 hy;rw[gh (by rw[hD.st];exact hD.ne)];have:vj C t s=(.error hI,s2):=by
   rcases h36 with h3|h6
   .rw[yH,gg O,gh h3,hx];grind
   grind[Ik]
  rw[this];exact hD
 obtain⟨ev,hQ,okv,rngv,htv⟩:=heb.2 v s2 hy;have hkv:=htv _ hvis heb1;rw[gg (by rw[hQ.sim.st];simp),ev];by_cases h3:t.op=3
 .rw[gh h3];rw[gh h3]at L;have hk:u.k=2/\(v.k=1\/v.k=2):=J;refine Rt hV hC (k:=u.s) (v:=v) ?_ hQ (Ob okv hk.2) rngv rfl;rw[yH,gg O,gh h3,hx];grind
 have h6:t.op=6:=J;rw[gg h3,gg h4,gg h7,gg h5,gh h6]at L bH;rw[gg h3];rw[gh (.inr h6)]at hf;by_cases hz:(sf ts.visible t).1≠1\/(sf ts.visible t).2.1≠1
 .grind
 rw[gg hz]at L bH;have hk1:u.k=1/\v.k=1:=J;have hmx:=DS pg h6;have g0:=TGo.set hT (hf.2 t.name Z) 1 (qc ts.loops t.name true);have qV:=(hf.right g0).left;have qd:(sw t.body ⟨qc ts.visible t.name 1,qc ts.loops t.name true,qc ts.all t.name 1⟩).1=0:=ff;have s1':subV (sw t.body ⟨qc ts.visible t.name 1,qc ts.loops t.name true,qc ts.all t.name 1⟩).2.all hr:=ff;have g1:=kY t.body _ g0.ok qV qd;have r7:vj C t s=if vP u.n v.n t.max then(.error (ab 1005),s2)else vq (re C t.body) t.name v.n 16386 u.n s2:=by grind[Ik]
 rw[r7];have hmi:=XN (mx:=t.max) rngu.1 rngv.1 hmx.1 hmx.2;by_cases hm:vP u.n v.n t.max
 .rw[gh hm,gh (hmi.1 hm)];exact hQ.sim.ab _
 rw[gg hm,gg (λg=>hm (hmi.2 g))];have hfw:=RK rngu.1 rngv.1 hmx.1 hmx.2 hm;have hfw2:v.n - u.n<=16:=J;refine Lr (hr:=hr) (body:=re C t.body) (bodyR:=u6 C t.body) rngv.1 (λty hg=>?_) (λs m hp=>?_) 16386 _ u.n s2 _ rngu.1 J J (hQ.mono (il _) (il _))
 .have:=(g1.mono.trans s1') t.name 1 (by simp[iO]);grind
 exact hB _ s m g0.ok qV qd s1' (hp.mono (il _) (il _))
mutual
theorem VE:∀(t:St) (d:Nat) (ts:TS) (s:MS) (m:RM),aC t d->aR t->TOk ts->fresh (qZ t) ts->(bY t ts).1=0->subV (bY t ts).2.all hr->Pre hr 8192 1 s m->yO hr (vj C t s) (oD C t m)
 | .mk op name mx a b body els,d,ts,s,m,pg,hg,hT,hf,L,bH,h=>by
  have zi:=(dZ _ _).1 pg;have pa:=(uO _).1 hg;exact VU hV hC pg hg hT hf L bH h
   (λts s m O U h3 h4 h5=>Fh body (d+1) ts s m zi.2.1 pa.2.2.1 O U h3 h4 h5)
   (λts s m O U h3 h4 h5=>Fh els (d+1) ts s m zi.2.2 pa.2.2.2 O U h3 h4 h5)
theorem Fh:∀(l:List St) (d:Nat) (ts:TS) (s:MS) (m:RM),eZ l d->(∀x∈l,aR x)->TOk ts->fresh (vg l) ts->(sw l ts).1=0->subV (sw l ts).2.all hr->Pre hr 0 0 s m->yO hr (re C l s) (u6 C l m)
 | [],d,ts,s,m,_,_,_,_,_,_,h=>by rw[re,u6];exact h
 |t::l,d,ts,s,m,pg,hg,hT,hf,L,bH,h=>by
  obtain⟨t1,t2⟩:=NN h;rw[sw]at L bH;rw[vg]at hf;have he:(bY t ts).1=0:=W;rw[gg fx]at L bH;have g1:=C8 t ts hT hf.left he;have g2:=kY l _ g1.ok (hf.right g1) L;rw[re,u6,gg (by rw[h.sim.st];simp)];rcases hx:xx s with⟨hI|u,s1⟩
  .obtain⟨e1,e2⟩:=t1 _ _ hx;simp only;rw[gg e1,Di C l e1];exact e2
  obtain⟨e1,e2⟩:=t2 _ _ hx;simp only;rw[gh e1];have hS:=VE t d ts s1 (xz m) (pg t Z) (hg t Z) hT hf.left he (g2.mono.trans bH) e2;rcases hy:vj C t s1 with⟨hI|u',s2⟩
  .rw[hy]at hS;have hS:Dead hI s2 _:=hS;simp only;rw[Di C l qhu];exact hS
  rw[hy]at hS;have hS:Pre hr 0 0 s2 _:=hS;exact Fh l d _ s2 _ (λx hx=>pg x be) (λx hx=>hg x be) g1.ok (hf.right g1) L bH hS
end
end
section
variable {σ τ:Type} (fS:σ->St->Nat->σ) (fR:σ->Ex->σ) (gS:τ->St->Nat->τ) (gR:τ->Ex->τ)
theorem M3(e:Ex)(x:Nat×σ)(y:Nat×τ)(h:x.1=y.1):(wa fR e x).1=(wa gR e y).1:=by grind[wa]
mutual
theorem Wq:∀(s:St) (d:Nat) (x:Nat×σ) (y:Nat×τ),x.1=y.1->(aZ fS fR s d x).1=(aZ gS gR s d y).1
 | .mk _ _ _ a b body els,d,x,y,h=>by rw[aZ,aZ];exact Hm els _ _ _ (Hm body _ _ _ (M3 fR gR b _ _ (M3 fR gR a _ _ h)))
theorem Hm:∀(l:List St) (d:Nat) (x:Nat×σ) (y:Nat×τ),x.1=y.1->(tn fS fR l d x).1=(tn gS gR l d y).1
 | [],d,x,y,h=>by rw[tn,tn];exact h
 |s::l,d,x,y,h=>by
  rw[tn,tn,h];split
  .exact h
  exact Hm l d _ _ (Wq s d _ _ rfl)
end
end
mutual
theorem qrb:∀(s:St) (d:Nat) (x:Nat×List na),(aZ bC tz s d x).1≠0->(aZ bC tz s d x).2=x.2++(vg s.body++vg s.els)
 | .mk _ _ _ a b body els,d,x,h=>by rw[aZ]at h|-;have hl:=wE bC tz els (d+1) (tn bC tz body (d+1) (wa tz b (wa tz a x)));rw[Ge els (d+1) _ h,Ge body (d+1) _ J,Hl,Hl];simp[St.body,St.els]
theorem Ge:∀(l:List St) (d:Nat) (x:Nat×List na),(tn bC tz l d x).1≠0->(tn bC tz l d x).2=x.2++vg l
 | [],d,x,h=>by rw[tn,vg];simp
 |s::l,d,x,h=>by
  rw[tn]at h|-;split
  .grind
  rename_i hz;rw[gg hz]at h;have hl:=wE bC tz l d (aZ bC tz s d (x.1 - 1,bC x.2 s d));rw[Ge l d _ h,qrb s d _ J,vg,zY];grind[bC]
end
theorem qsb{p:Proc}(h:zo p=0):(tn cQ tz p.body 1 (401,(0:Int))).1≠0:=by grind[zo]
theorem E7{p:Proc}(h:zo p=0):gC p=p.params.map (·.name)++vg p.body:=by grind[gC,Ge,qsb,Hm]
theorem Iv:∀(l:List na) (tC:List (na×Bool)),(∀q∈tC,q.2=true)->(vJ tC l=false↔l.Nodup/\∀x∈l,x∉uo tC)
 | [],tC,_=>by simp[vJ]
 |x::l,tC,hm=>by
  have hs:∀q∈qc tC x true,q.2=true:=λq hq=>by
   rcases AY hq with rfl|hq
   .rfl
   grind
  rw[vJ,qka,Iv l _ hs,l7];have hx:(pb tC x).getD false=false↔x∉uo tC:=by
   rw[<-sM];rcases hg:pb tC x with _|v
   .simp
   have:=hm _ (zK hg);grind
  grind[rT]
def lT:List Param->List AV->List Pr->List Pr
 |x::l,v::r,m=>lT l r (yj m ⟨x.name,v⟩)
 |_,_,m=>m
abbrev A1(p:Proc)(args:List AV):RM:=⟨lT p.params args [],[],0,0,[],[],[],em,0⟩
def BR(m:RM):Eff:=if m.st≠0 then⟨m.st,m.code,[],m.reads,m.puts,[],m.miss,m.steps⟩else⟨1,m.code,m.out,m.reads,m.puts,m.own,m.miss,m.steps⟩
def A0(fmt:Int->na)(p:Proc)(args:List AV)(st:List Pr)(ft:Foot):Eff :=
 if aO p≠0\/gU p args≠0\/ph st=false\/vi ft.all ft.reads ft.writes=false then bI
 else BR (u6 (ya fmt st ft) p.body (A1 p args))
theorem Nn:∀(ps:List Param) (vs:List AV) (a:List (na×AV)) (b:List Pr),(∀k,pb a k=if tf b k=true then some (pp b k)else none)->∀k,pb (lA ps vs a) k=if tf (lT ps vs b) k=true then some (pp (lT ps vs b) k)else none
 | [],vs,a,b,h=>by cases vs<;>exact h
 |x::l,[],a,b,h=>h
 |x::l,v::r,a,b,h=>by rw[lA,lT];refine Nn l r _ _ λk=>?_;rw[iO,(C7 _ _ _).1,(C7 _ _ _).2];grind
theorem L7:∀(ps:List Param) (vs:List AV) (a:List (na×AV)) (ts:TS),kG ps vs=true->vs.length=ps.length->(∀k v ty,pb a k=some v->pb ts.visible k=some ty->v.k=ty)->(∀k v,pb a k=some v->∃ty,pb ts.visible k=some ty) ->
  (∀k v ty,pb (lA ps vs a) k=some v->pb (jA ps ts).visible k=some ty->v.k=ty)/\∀k v,pb (lA ps vs a) k=some v->∃ty,pb (jA ps ts).visible k=some ty
 | [],vs,a,ts,_,_,h,Y=>by cases vs<;>exact⟨h,Y⟩
 |x::l,[],a,ts,_,hl,h,Y=>by cases hl
 |x::l,v::r,a,ts,ho,hl,h,Y=>by
  simp only[kG,gy]at ho;rw[lA];have hd:jA (x::l) ts=jA l (ts.decl x.name x.ty):=rfl;rw[hd];have hk:v.k=x.ty:=by have:=ho.1;unfold Ah at this;grind
  refine L7 l r _ _ ho.2 W (λk w ty hw hg=>?_) λk w hw=>?_
  .grind[TS.decl,iO]
  simp only[TS.decl];rw[iO]at hw|-;split at hw
  .simp_all
  grind
theorem IW:∀(ps:List Param) (ts:TS),TOk ts->fresh (ps.map (·.name)) ts->TGo (ps.map (·.name)) ts (jA ps ts)
 | [],ts,h,_=>.refl h _
 |x::l,ts,h,hf=>by
  have hd:jA (x::l) ts=jA l (ts.decl x.name x.ty):=rfl;rw[hd];have lD:fresh ([x.name]++l.map (·.name)) ts:=hf
  have g:=TGo.set h (lD.2 x.name Z) x.ty ts.loops;exact g.trans (IW l _ g.ok (lD.right g))
theorem Z3{fmt:Int->na}{p:Proc}{args:List AV}{st:List Pr}{ft:Foot}(z:RunIn fmt p args st):A0 fmt p args st ft=un fmt p args st ft:=by
 by_cases h:dK p args st ft
 .have G:=(nB _ _ _ _).1 h;rw[rA h];unfold A0;rw[gg h];have hc:=G.1;have hvp:=JF hc;have hty:jK p=0:=by
   have:=VM hc;grind[lS]
  unfold jK at hty;rw[gg (by simp[hvp])]at hty;split at hty
  .omega
  split at hty
  .omega
  rename_i hdup;have hdup:vJ [] (gC p)=false:=W;rw[E7 hvp]at hdup;have sP:=((Iv _ [] Z).1 hdup).1;have hF:fresh (p.params.map (·.name)++vg p.body) ⟨[],[],[]⟩:=⟨sP,by simp[uo]⟩
  have hT0:TOk ⟨[],[],[]⟩:=⟨by simp[uo],.refl _⟩
  have gP:=IW p.params ⟨[],[],[]⟩ hT0 hF.left;have hfB:=hF.right gP;have qd:(sw p.body (jA p.params ⟨[],[],[]⟩)).1=0:=by unfold nV wy at hty;grind
  have gB:=kY p.body _ gP.ok hfB qd;have hao:=(FT G.2.1)
  have haok:kG p.params args=true:=by grind[gU]
  have hta:=L7 p.params args [] ⟨[],[],[]⟩ haok hao.1 (by simp[pb]) (by simp[pb]);obtain⟨hr,hG⟩:∃hr,hr=(sw p.body (jA p.params ⟨[],[],[]⟩)).2.all:=⟨_,rfl⟩
  have bH:subV (jA p.params ⟨[],[],[]⟩).visible hr:=by rw[hG];exact gP.ok.sub.trans gB.mono
  have hpre:Pre hr 0 0 (iQ p args) (A1 p args):=by
   refine⟨Cj z,QF G.2.1,λk v ty hv hg=>?_,⟨λk=>?_,by simp[qa,ut,pb],rfl,rfl,rfl,rfl,rfl,rfl,rfl,rfl⟩⟩
   .obtain⟨ty',mH⟩:=hta.2 k v hv;have:=bH _ _ mH;grind
   grind[pb,tf,ut,Nn]
  have hP:=Fh (C:=ya fmt st ft) (hr:=hr) (Rb z G.2.2.1) (λq hq=>z.st q hq) p.body 1 _ _ _ (A8 hc) (BM hc z.body) gP.ok hfB qd (by rw[hG];exact .refl _) hpre;have Ay:=Dx (fmt:=fmt) (p:=p) (args:=args) (st:=st) (ft:=ft) p.body;rcases hx:re (ya fmt st ft) p.body (iQ p args)with⟨hI|u,s⟩
  .rw[hx]at hP;have hP:Dead hI s _:=hP;unfold BR;rw[gh (by rw[hP.st];exact hP.ne),hP.st,hP.code,hP.reads,hP.puts,hP.miss,hP.steps];rfl
  rw[hx]at hP Ay;have hP:Pre hr 0 0 s _:=hP;have hS:=hP.sim;unfold BR;rw[gg (by rw[hS.st];simp),hS.code,hS.out,hS.reads,hS.puts,hS.miss,hS.steps];have An:qg s.puts:=Ay.ap Z;have:(u6 (ya fmt st ft) p.body (A1 p args)).own=s.puts.map λk=>(⟨k,(pb s.own k).getD AV.nil⟩:Pr):=by
   rw[<-hS.keys];unfold ur;rw[qio];refine(List.map_id _).symm.trans (qi7 λq hq=>?_);have hk:q.key∈s.puts:=by rw[<-hS.keys];exact ig.2 ⟨q,hq,rfl⟩
   simp only[Function.comp,id];rw[hS.own,gh (aD.2 hk),l6,CK (by rw[hS.keys];exact An) hq]
  grind[kZ]
 rw[oU h];unfold A0;rw[gh (Decidable.not_not.1 h)]
end
abbrev Ex.z:Ex:=.mk 0 0 em []
abbrev St.z:St:=.mk 0 em 0 Ex.z Ex.z [] []
structure Vt where
 isS:Bool
 t:St
 d:Nat
 e:Ex
 root:Bool
def Vt.c(v:Vt):List V:=[Bo v.isS,I v.t.op,my v.t.name,I v.t.max,I v.t.a.op,I v.t.a.n,my v.t.a.s,.slice (v.t.a.args.map Ex.c),I v.t.b.op,I v.t.b.n,my v.t.b.s,.slice (v.t.b.args.map Ex.c),.slice (v.t.body.map St.c),.slice (v.t.els.map St.c),I v.d,I v.e.op,I v.e.n,my v.e.s,.slice (v.e.args.map Ex.c),Bo v.root]
def Vt.ofS(t:St)(d:Nat):Vt:=⟨true,t,d,Ex.z,false⟩
def Vt.ofE(e:Ex)(r:Bool):Vt:=⟨false,St.z,0,e,r⟩
mutual
def bN:Ex->Bool->List Vt->List Vt
 | .mk op n s args,r,out=>if 400<out.length then out else iG args (out++[Vt.ofE (.mk op n s args) r])
def iG:List Ex->List Vt->List Vt
 | [],out=>out
 |e::l,out=>if out.length<=400 then iG l (bN e false out)else out
end
theorem Jj(e:Ex)(r:Bool)(out:List Vt):bN e r out=if 400<out.length then out else iG e.args (out++[Vt.ofE e r]):=by cases e;rw[bN];rfl
def cR(e:Ex)(out:List Vt):List Vt:=if kP e=true then out else bN e true out
mutual
def wkS:St->Nat->List Vt->List Vt
 | .mk _ _ _ a b body els,d,out=>xm els (d+1) (xm body (d+1) (cR b (cR a out)))
def xm:List St->Nat->List Vt->List Vt
 | [],_,out=>out
 |t::l,d,out=>if out.length<=400 then xm l d (wkS t d (out++[Vt.ofS t d]))else out
end
theorem qo3(t:St)(d:Nat)(out:List Vt):wkS t d out=xm t.els (d+1) (xm t.body (d+1) (cR t.b (cR t.a out))):=by cases t;rw[wkS];rfl
abbrev jQ(p:Proc):List Vt:=xm p.body 1 []
section
variable {σ:Type} (fS:σ->St->Nat->σ) (fR:σ->Ex->σ)
def w8(s:σ)(l:List Vt):σ:=l.foldl (λs v=>if v.isS then fS s v.t v.d else if v.root then fR s v.e else s) s
theorem qvt(s:σ)(l:List Vt)(v:Vt):w8 fS fR s (l++[v])=if v.isS then fS (w8 fS fR s l) v.t v.d else if v.root then fR (w8 fS fR s l) v.e else w8 fS fR s l:=by simp[w8,qj9]
theorem Zg(s:σ)(l:List Vt)(t:St)(d:Nat):w8 fS fR s (l++[Vt.ofS t d])=fS (w8 fS fR s l) t d:=qid
def qkl(s:σ)(l:List Vt)(e:Ex):w8 fS fR s (l++[Vt.ofE e false])=w8 fS fR s l:=qid
theorem VS(s:σ)(l:List Vt)(e:Ex):w8 fS fR s (l++[Vt.ofE e true])=fR (w8 fS fR s l) e:=qid
mutual
theorem TB:∀(e:Ex) (out:List Vt) (s:σ),out.length<=401->(bN e false out).length<=401/\oS e (401 - out.length)=401 - (bN e false out).length/\w8 fS fR s (bN e false out)=w8 fS fR s out
 | .mk op n x args,out,s,h=>by
  rw[bN,oS];by_cases O:400<out.length
  .grind
  rw[gg O,gg J];have:=FY args (out++[Vt.ofE (.mk op n x args) false]) s au;refine⟨this.1,?_,this.2.2.trans (qkl _ _ _ _ _)⟩;grind
theorem FY:∀(l:List Ex) (out:List Vt) (s:σ),out.length<=401->(iG l out).length<=401/\tF l (401 - out.length)=401 - (iG l out).length/\w8 fS fR s (iG l out)=w8 fS fR s out
 | [],out,s,h=>by rw[iG,tF];exact⟨h,rfl,rfl⟩
 |e::l,out,s,h=>by
  rw[iG,tF];by_cases O:out.length<=400
  .rw[gh O];have U:=TB e out s h;have h3:=FY l (bN e false out) s U.1;grind
  grind[Gu,Fg]
end
def Pm(e:Ex)(out:List Vt)(s:σ)(h:out.length<=401):(cR e out).length<=401/\wa fR e (401 - out.length,w8 fS fR s out)=(401 - (cR e out).length,w8 fS fR s (cR e out)):=by grind[Jj,Vt.ofE,VS,GY,cR,wa,FY]
mutual
theorem U2:∀(t:St) (d:Nat) (out:List Vt) (s:σ),out.length<=401->(wkS t d out).length<=401/\aZ fS fR t d (401 - out.length,w8 fS fR s out)=(401 - (wkS t d out).length,w8 fS fR s (wkS t d out))
 | .mk _ _ _ a b body els,d,out,s,h=>by rw[wkS,aZ];have O:=Pm fS fR a out s h;have U:=Pm fS fR b _ s O.1;have h3:=D2 body (d+1) _ s U.1;have h4:=D2 els (d+1) _ s h3.1;grind
theorem D2:∀(l:List St) (d:Nat) (out:List Vt) (s:σ),out.length<=401->(xm l d out).length<=401/\tn fS fR l d (401 - out.length,w8 fS fR s out)=(401 - (xm l d out).length,w8 fS fR s (xm l d out))
 | [],d,out,s,h=>by rw[xm,tn];exact⟨h,rfl⟩
 |t::l,d,out,s,h=>by
  rw[xm,tn];by_cases O:out.length<=400
  .rw[gh O,gg J];have U:=U2 t d (out++[Vt.ofS t d]) s au;have h3:=D2 l d _ s U.1;grind[Zg,it,lj]
  grind
end
theorem zD(p:Proc)(s:σ):(jQ p).length<=401/\tn fS fR p.body 1 (401,s)=(401 - (jQ p).length,w8 fS fR s (jQ p)):=D2 fS fR p.body 1 [] s Z
end
def xF:List Vt->Int
 | []=>0
 |v::l=>if v.isS=true/\bW v.t v.d≠0 then bW v.t v.d else xF l
theorem MW:∀(l:List Vt) (s:Int),w8 cQ tz s l=if s≠0 then s else xF l
 | [],s=>by simp[w8,xF]
 |v::l,s=>by
  have:w8 cQ tz s (v::l)=w8 cQ tz (if v.isS then cQ s v.t v.d else if v.root then tz s v.e else s) l:=rfl;rw[this,MW l,xF];cases hv:v.isS
  .simp[tz]
  simp only[cQ,iz,true_and];by_cases h:s=0
  .simp only[h,iz];by_cases U:bW v.t v.d=0<;>simp[U]
  simp[h]
theorem TC(p:Proc):zo p=if kJ p.name=false then 7 else if tM p.params≠0 then tM p.params else if xF (jQ p)≠0 then xF (jQ p)else if 400<(jQ p).length then 2 else 0:=by grind[MW,zo,zD]
def nO:List Vt->List na
 | []=>[]
 |v::l=>if v.isS=true/\(v.t.op=1\/v.t.op=6)then v.t.name::nO l else nO l
theorem Rr:∀(l:List Vt) (s:List na),w8 bC tz s l=s++nO l
 | [],s=>by simp[w8,nO]
 |v::l,s=>by
  have:w8 bC tz s (v::l)=w8 bC tz (if v.isS then bC s v.t v.d else if v.root then tz s v.e else s) l:=rfl;rw[this,Rr l,nO];cases hv:v.isS
  .simp[tz]
  simp only[bC,iz,true_and];split<;>simp
theorem OU(p:Proc):gC p=p.params.map (·.name)++nO (jQ p):=by simp[zD,Rr,gC]
def pA:List Vt->List Ex
 | []=>[]
 |v::l=>if v.root then v.e::pA l else pA l
def uW(v:Vt):Prop:=v.isS=true->v.root=false
theorem MB:∀(l:List Vt) (s:List Ex),(∀v∈l,uW v)->w8 eR mM s l=s++pA l
 | [],s,_=>by simp[w8,pA]
 |v::l,s,h=>by
  have:w8 eR mM s (v::l)=w8 eR mM (if v.isS then eR s v.t v.d else if v.root then mM s v.e else s) l:=rfl;rw[this,MB l _ (λx hx=>h x be),pA];cases hv:v.isS
  .grind[mM,qjf]
  have:=h v Z hv;grind[eR]
mutual
theorem Sq:∀(e:Ex) (r:Bool) (out:List Vt),(∀v∈out,uW v)->∀v∈bN e r out,uW v
 | .mk op n x args,r,out,h=>by
  rw[bN];split
  .exact h
  refine QC args _ λv hv=>?_;rcases jj.1 hv with hv|hv
  .grind
  rw[jx.1 hv];intro h;cases h
theorem QC:∀(l:List Ex) (out:List Vt),(∀v∈out,uW v)->∀v∈iG l out,uW v
 | [],out,h=>by rw[iG];exact h
 |e::l,out,h=>by
  rw[iG];split
  .exact QC l _ (Sq e false out h)
  exact h
end
def Q6(e:Ex)(out:List Vt)(h:∀v∈out,uW v):∀v∈cR e out,uW v:=by grind[cR,Sq]
mutual
theorem ql9:∀(t:St) (d:Nat) (out:List Vt),(∀v∈out,uW v)->∀v∈wkS t d out,uW v
 | .mk _ _ _ a b body els,d,out,h=>by rw[wkS];exact FC els _ _ (FC body _ _ (Q6 b _ (Q6 a _ h)))
theorem FC:∀(l:List St) (d:Nat) (out:List Vt),(∀v∈out,uW v)->∀v∈xm l d out,uW v
 | [],d,out,h=>by rw[xm];exact h
 |t::l,d,out,h=>by
  rw[xm];split
  .refine FC l d _ (ql9 t d _ λv hv=>?_);rcases jj.1 hv with hv|hv
   .grind
   rw[jx.1 hv];intro h;rfl
  exact h
end
theorem P5(p:Proc):yt p=pA (jQ p):=by unfold yt;rw[(zD eR mM p _).2];have:=MB (jQ p) [] (FC p.body 1 [] Z);grind
def Nb{t:St}{d:Nat}(h:aC t d){e:Ex}(he:e=t.a\/e=t.b)(hn:kP e=false):te e 1=0:=by have O:=((dZ t d).1 h).1;grind[bW,Mt,Rv,fG]
def Pc{e:Ex}{x:Nat×List Ex}{P:Ex->Prop}(h:∀y∈x.2,P y)(he:kP e=false->P e):∀y∈(wa mM e x).2,P y:=by
 unfold wa;split
 .exact h
 rename_i hn;simp only[not_or,Bool.not_eq_true]at hn;intro y hy;rcases jj.1 hy with hy|hy
 .grind
 grind
mutual
theorem W0:∀(t:St) (d:Nat) (x:Nat×List Ex),aC t d->(∀y∈x.2,te y 1=0)->∀y∈(aZ eR mM t d x).2,te y 1=0
 | .mk op nm mx a b body els,d,x,hk,h=>by
  have qh:=(dZ _ _).1 hk;rw[aZ];refine Gk els _ _ qh.2.2 (Gk body _ _ qh.2.1 (Pc (Pc h λhn=>?_) λhn=>?_))
  .exact Nb hk (.inl rfl) hn
  exact Nb hk (.inr rfl) hn
theorem Gk:∀(l:List St) (d:Nat) (x:Nat×List Ex),eZ l d->(∀y∈x.2,te y 1=0)->∀y∈(tn eR mM l d x).2,te y 1=0
 | [],d,x,hk,h=>by rw[tn];exact h
 |t::l,d,x,hk,h=>by
  rw[tn];split
  .exact h
  exact Gk l d _ (λy hy=>hk y c0) (W0 t d _ (hk t Z) h)
end
def qn0{p:Proc}(h:zo p=0):∀e∈yt p,te e 1=0:=Gk p.body 1 _ (CC h) Z
section
def zH(op a b:Int):Int :=
 if a≠b then 0 else if 4<=op/\op<=8/\a=1 then 1
 else if op=10\/op=11\/(12<=op/\op<=15/\a≠3)\/((op=16\/op=17)/\a=3)then 3
 else if op=19/\a=2 then 2 else 0
theorem qm6{o:Option Int}(h:(dH o).2=0):1<=(dH o).1/\(dH o).1<=3:=by unfold dH at h|-;grind
def VB(op:Int):1<=(ux op).2/\(ux op).2<=3:=by grind[ux]
theorem K6(vars:ui)(e:Ex)(h:(ofE vars e).2=0):1<=(ofE vars e).1/\(ofE vars e).1<=3:=by
 rw[xC]at h|-;by_cases h3:e.op=3
 .simp_all[qm6]
 rw[gg h3]at h|-;by_cases L:(bB vars e.args).1≠0
 .grind
 rw[gg L]at h|-;by_cases O:10<=e.op/\e.op<=15
 .grind
 rw[gg O]at h|-;split
 .exact VB _
 grind
def V5(vars:ui){e:Ex}(h:uv e.op=0)(ha:e.args=[]):ofE vars e=if e.op=3 then dH (pb vars e.s)else if e.op=2 then(2,0)else(1,0):=by
 rw[xC,ha,bB];unfold uv at h;by_cases h3:e.op=3
 .grind
 have p8:e.op<=3\/25<=e.op:=J;grind[ux]
theorem NB(vars:ui){e a:Ex}(h:uv e.op=1)(ha:e.args=[a]):ofE vars e=if (ofE vars a).2≠0 then(0,(ofE vars a).2)else if (ofE vars a).1≠(ux e.op).1 then(0,10)else((ux e.op).2,0):=by grind[uv,xC,bB]
theorem N9(vars:ui){e a b:Ex}(h:uv e.op=2)(ha:e.args=[a,b]):ofE vars e=if (ofE vars a).2≠0 then(0,(ofE vars a).2)else if (ofE vars b).2≠0 then(0,(ofE vars b).2)else if zH e.op (ofE vars a).1 (ofE vars b).1=0 then(0,10)else(zH e.op (ofE vars a).1 (ofE vars b).1,0):=by
 have p8:(4<=e.op/\e.op<=8)\/(10<=e.op/\e.op<=17)\/e.op=19:=fg;rw[xC,ha,gg J,bB,bB,bB];by_cases U:(ofE vars a).2≠0
 .grind
 rw[gg U,gg U];by_cases h3:(ofE vars b).2≠0
 .grind
 rw[gg h3,gg h3];have ra:=K6 vars a J;have rb:=K6 vars b J;obtain⟨x,hx⟩:=Qaj ((ofE vars a).1)
 obtain⟨y,hy⟩:=Qaj ((ofE vars b).1)
 rw[hx]at ra|-;rw[hy]at rb|-;obtain⟨op,ho⟩:=Qaj (e.op)
 rw[ho]at p8|-;simp only[ne_eq,qjz,jg,List.getD_cons_zero,List.getD_cons_succ,qin,qjc,kg,gy,jm];have ex:x=1\/x=2\/x=3:=J;have ey:y=1\/y=2\/y=3:=J;have eo:op=4\/op=5\/op=6\/op=7\/op=8\/op=10\/op=11\/op=12\/op=13\/op=14\/op=15\/op=16\/op=17\/op=19:=J;clear hx hy ho p8 ra rb ha h U h3;rcases ex with rfl|rfl|rfl<;>rcases ey with rfl|rfl|rfl<;>rcases eo with rfl|rfl|rfl|rfl|rfl|rfl|rfl|rfl|rfl|rfl|rfl|rfl|rfl|rfl<;>decide
def yy(op a b:Int):Bool :=
 if op=3 then !decide (a=2)||decide (b=3)else if op=4 then !decide (a=2)else if op=5 then !decide (a=3)else if op=6 then !decide (a=1)||!decide (b=1)else if op=7 then decide (a=3)else false
def vN(vars:ui)(loops:List na)(name:na)(t:Int):Int :=
 if (dH (pb vars name)).2≠0 then(dH (pb vars name)).2 else if qa loops name=true then 7 else if t≠(dH (pb vars name)).1 then 10 else 0
mutual
def jN:St->ui->List na->Int
 | .mk op name mx a b body els,vars,loops =>
  let t:St:=.mk op name mx a b body els
  let o:=sf vars t
  let e1:=if o.2.2=0/\op=2 then vN vars loops name o.1 else o.2.2
  let e2:=if e1=0/\yy op o.1 o.2.1=true then 10 else e1
  let e3:=if e2=0/\op=5 then(if yi body vars loops=0 then yi els vars loops else yi body vars loops)else e2
  if e3=0/\op=6 then yi body (vars++[(name,1)]) (loops++[name])else e3
def yi:List St->ui->List na->Int
 | [],_,_=>0
 |t::l,vars,loops=>if jN t vars loops≠0 then jN t vars loops else yi l (if t.op=1 then vars++[(t.name,(sf vars t).1)]else vars) loops
end
section
variable{ts:TS}{loops:List na}{k:na}{l:List St}{f:TS->Int×TS}
theorem Az(t:St)(vars:ui)(loops:List na):jN t vars loops =
  (let o:=sf vars t
  let e1:=if o.2.2=0/\t.op=2 then vN vars loops t.name o.1 else o.2.2
  let e2:=if e1=0/\yy t.op o.1 o.2.1=true then 10 else e1
  let e3:=if e2=0/\t.op=5 then(if yi t.body vars loops=0 then yi t.els vars loops else yi t.body vars loops)else e2
  if e3=0/\t.op=6 then yi t.body (vars++[(t.name,1)]) (loops++[t.name])else e3):=by
 cases t;rw[jN];rfl
theorem JU{α:Type}:∀(l:List (na×α)) (k n:na) (v:α),pb (l++[(n,v)]) k=match pb l k with|some x=>some x|none=>if n=k then some v else none
 | [],k,n,v=>by simp[pb]
 |p::l,k,n,v=>by
  simp only[mb,pb];split
  .rfl
  simp[JU]
theorem YZ{a b:ui}(hk:∀k,pb a k=pb b k)(l:List Ex)(h:∀x∈l,ofE a x=ofE b x):bB a l=bB b l:=by
 induction l with
 |nil=>rfl
 |cons e l ih =>
  rw[bB,bB,h e Z,ih (λx hx=>h x be)]
theorem N8{a b:ui}(hk:∀k,pb a k=pb b k)(e:Ex):ofE a e=ofE b e:=by
 rw[xC,xC,hk,YZ hk e.args λx hx=>by have:=Ex.arg_lt hx;exact N8 hk x]
termination_by SizeOf.sizeOf e
theorem KX{a b:ui}(hk:∀k,pb a k=pb b k)(t:St):sf a t=sf b t:=by grind[N8,sf]
structure TR(ts:TS)(vars:ui)(loops:List na):Prop where
 vis:∀k,pb ts.visible k=pb vars k
 lp:∀k,k∈uo vars->(pb ts.loops k=some true↔k∈loops)
 lin:∀k∈loops,k∈uo ts.all
 lk:∀k v,pb ts.loops k=some v->k∈uo ts.all
 ty:∀k v,pb vars k=some v->1<=v/\v<=3
theorem TR.keys{vars:ui}(h:TR ts vars loops)(hT:TOk ts)(hk:k∉uo ts.all):k∉uo vars:=λhm=>by
 rcases hx:pb vars k with _|v
 .grind[sM]
 rw[<-h.vis]at hx;have:=hT.sub _ _ hx;rw[sM.2 hk]at this;cases this
def Ie{α:Type}(l:List (na×α))(k:na)(v:α)(x:na):x∈uo (l++[(k,v)])↔x∈uo l\/x=k:=by simp[uo]
theorem TR.decl{vars:ui}(h:TR ts vars loops)(hT:TOk ts)(hk:k∉uo ts.all){ty:Int}(O:1<=ty)(U:ty<=3):TR (ts.decl k ty) (vars++[(k,ty)]) loops:=by
 have hv:=h.keys hT hk;refine⟨λx=>?_,λx hx=>?_,λx hx=>(rT _ _ _ _).2 (.inr (h.lin x hx)),λx v hx=>(rT _ _ _ _).2 (.inr (h.lk x v hx)),λx v hx=>?_⟩
 .simp only[TS.decl];rw[iO,JU,h.vis];by_cases e:k=x
  .subst e;rw[gh rfl,sM.2 hv,gh rfl]
  grind
 .rcases(Ie _ _ _ _).1 hx with hx|rfl
  .exact h.lp x hx
  simp only[TS.decl];constructor
  .intro hl;exact(hk (h.lk _ _ hl)).elim
  intro hl;exact(hk (h.lin _ hl)).elim
 rw[JU]at hx;rcases hg:pb vars x with _|w
 .grind
 rw[hg]at hx;cases hx;exact h.ty x _ hg
theorem TR.loop{vars:ui}(h:TR ts vars loops)(hT:TOk ts)(hk:k∉uo ts.all):TR ⟨qc ts.visible k 1,qc ts.loops k true,qc ts.all k 1⟩ (vars++[(k,1)]) (loops++[k]):=by
 have hd:=h.decl hT hk (ty:=1) ax ax;refine⟨hd.vis,λx hx=>?_,λx hx=>?_,λx v hx=>?_,hd.ty⟩
 .simp only;rw[iO];by_cases e:k=x
  .grind
  rw[gg e,jj,jx];rcases(Ie _ _ _ _).1 hx with hx|rfl
  .rw[h.lp x hx];grind
  grind
 .rw[jj,jx]at hx;rcases hx with hx|rfl
  .exact(rT _ _ _ _).2 (.inr (h.lin x hx))
  simp[rT]
 simp only at hx;rw[iO]at hx;split at hx
 .grind[rT]
 exact(rT _ _ _ _).2 (.inr (h.lk x v hx))
def pW:List St->List na
 | []=>[]
 |t::l=>if t.op=1 then t.name::pW l else pW l
theorem Kh:∀(l:List St) (k:na),k∈pW l->k∈vg l
 | [],k,h=>by cases h
 |t::l,k,h=>by
  rw[vg,zY];rw[pW]at h;split at h
  .rename_i O;rw[gh (.inl O)];rcases iq.1 h with rfl|h
   .simp
   simp_all[Kh]
  simp_all[Kh]
theorem Ld{α:Type}:∀(l:List (na×α)) (n k:na),(uo l).Nodup->pb (oK l n) k=if n=k then none else pb l k
 | [],n,k,_=>by simp[oK,pb]
 |p::l,n,k,h=>by
  have Y:p.1∉uo l/\(uo l).Nodup:=l7.1 h;rw[oK];by_cases e:p.1=n
  .rw[gh e];grind[sM,pb]
  rw[gg e,pb,pb,Ld l n k Y.2];grind
theorem JD:∀(l:List St) (vis:ui) (k:na),(uo vis).Nodup->pb (rN l vis) k=if qa (pW l) k=true then none else pb vis k
 | [],vis,k,_=>by simp[rN,pW,qa,ut]
 |t::l,vis,k,h=>by
  rw[rN,pW];split
  .rename_i O;rw[JD l _ k (h.sublist ((G6 _ _).map _)),Ld _ _ _ h];have hc:qa (t.name::pW l) k=(decide (t.name=k)||qa (pW l) k):=rfl;grind
  simp_all[JD]
structure SV(ns ls:List na)(ts nY:TS):Prop where
 vis:∀k,k∉ls->pb nY.visible k=pb ts.visible k
 lp:∀k,k∉ns->pb nY.loops k=pb ts.loops k
 lk:(∀k v,pb ts.loops k=some v->k∈uo ts.all)->∀k v,pb nY.loops k=some v->k∈uo nY.all
theorem SV.refl(ns ls:List na)(ts:TS):SV ns ls ts ts:=⟨λ_ _=>rfl,λ_ _=>rfl,id⟩
theorem SV.blk(hT:TOk ts)(hf:fresh (vg l) ts)(hg:TGo (vg l) ts (f ts).2)(hs:SV (vg l) (pW l) ts (f ts).2)(L:(f ts).1=0):SV (vg l) [] ts (wy l f ts).2:=by
 unfold wy;rw[gg bz];refine⟨λk _=>?_,hs.lp,hs.lk⟩;simp only;rw[JD _ _ _ hg.ok.nod];by_cases e:qa (pW l) k=true
 .rw[gh e];have hn:=hf.2 k (Kh l k (aD.1 e));rcases hx:pb ts.visible k with _|v
  .rfl
  have:=hT.sub _ _ hx;rw[sM.2 hn]at this;cases this
 rw[gg e];exact hs.vis k (λg=>e (aD.2 g))
def Ep(h:(wy l f ts).1=0):(f ts).1=0:=ff
theorem Ru(l:List St)(f:TS->Int×TS)(ts:TS):(wy l f ts).1=(f ts).1:=ff
end
mutual
theorem P3:∀(t:St) (ts:TS),TOk ts->fresh (qZ t) ts->(bY t ts).1=0->SV (qZ t) (if t.op=1 then [t.name]else []) ts (bY t ts).2
 | .mk op name mx a b body els,ts,hT,hf,L=>by
  obtain⟨t,ht⟩:∃t:St,t=.mk op name mx a b body els:=⟨_,rfl⟩
  have aF:t.body=body:=fm;have lH:t.els=els:=fm;rw[<-ht]at L hf|-;rw[zY]at hf|-;rw[BO]at L|-;unfold uC at L|-;by_cases he:(sf ts.visible t).2.2≠0
  .grind
  rw[gg he]at L|-;by_cases O:t.op=1
  .rw[gh O]at L|-;rw[gh O];refine⟨λk hk=>?_,λk hk=>rfl,λg k v hv=>(rT _ _ _ _).2 (.inr (g k v hv))⟩;simp only[TS.decl];rw[iO,gg (λe=>hk (by simp[e]))]
  rw[gg O]at L|-;rw[gg O];by_cases U:t.op=2
  .rw[gh U];rcases pb ts.visible t.name with _|ty
   .exact .refl _ _ _
   exact .refl _ _ _
  rw[gg U]at L|-;by_cases h3:t.op=3
  .rw[gh h3];exact .refl _ _ _
  rw[gg h3]at L|-;by_cases h4:t.op=4
  .rw[gh h4];exact .refl _ _ _
  rw[gg h4]at L|-;by_cases h7:t.op=7
  .rw[gh h7];exact .refl _ _ _
  rw[gg h7]at L|-;by_cases h5:t.op=5
  .rw[gh h5]at L|-;by_cases h6:(sf ts.visible t).1≠3
   .grind
   rw[gg h6]at L|-;by_cases h8:(wy t.body (sw t.body) ts).1≠0
   .grind
   rw[gg h8]at L|-;rw[gg J,ke]at hf|-;have z1:=Ep (by simpa using h8);have z2:=Ep L;have g1:=TGo.blk (l:=t.body) (f:=sw t.body) (λg=>kY t.body ts hT hf.left g) J;have hf2:=hf.right g1;have s1:=SV.blk hT hf.left (kY t.body ts hT hf.left z1) (by rw[aF]at hf z1|-;exact DD body ts hT hf.left z1) z1;have s2:=SV.blk g1.ok hf2 (kY t.els _ g1.ok hf2 z2) (by rw[lH]at hf2 z2|-;exact DD els _ g1.ok hf2 z2) z2;refine⟨λk hk=>(s2.vis k hk).trans (s1.vis k hk),λk hk=>?_,λg=>s2.lk (s1.lk g)⟩;exact Qdz
  rw[gg h5]at L|-;by_cases h6:t.op=6
  .rw[gh h6]at L|-;by_cases h8:(sf ts.visible t).1≠1\/(sf ts.visible t).2.1≠1
   .grind
   rw[gg h8]at L|-;rw[gh (.inr h6)]at hf|-;have g0:=TGo.set hT (hf.2 t.name Z) 1 (qc ts.loops t.name true);have qV:=(hf.right g0).left;have z1:=Ep L;have g1:=kY t.body _ g0.ok qV z1;have s1:=SV.blk g0.ok qV g1 (by rw[aF]at qV z1|-;exact DD body _ g0.ok qV z1) z1;have cZ:=TGo.blk (l:=t.body) (f:=sw t.body) (λg=>kY t.body _ g0.ok qV g) L;refine⟨λk _=>?_,λk hk=>?_,λg=>?_⟩
   .simp only;rw[Ld _ _ _ cZ.ok.nod];by_cases e:t.name=k
    .rw[gh e];have hn:=hf.2 t.name Z;rcases hx:pb ts.visible k with _|v
     .rfl
     have:=hT.sub _ _ hx;rw[<-e,sM.2 hn]at this;cases this
    rw[gg e,s1.vis k Z];grind[iO]
   .simp only[jj,jx,not_or]at hk;simp only;rw[s1.lp k hk.2.1];grind[iO]
   simp only;refine s1.lk λk v hv=>?_;simp only at hv|-;grind[iO,rT]
  rw[gg h6];exact .refl _ _ _
theorem DD:∀(l:List St) (ts:TS),TOk ts->fresh (vg l) ts->(sw l ts).1=0->SV (vg l) (pW l) ts (sw l ts).2
 | [],ts,hT,hf,L=>by rw[sw];exact .refl _ _ _
 |t::l,ts,hT,hf,L=>by
  rw[sw]at L|-;rw[vg]at hf|-;by_cases he:(bY t ts).1≠0
  .grind
  rw[gg he]at L|-;have he:(bY t ts).1=0:=J;have s1:=P3 t ts hT hf.left he;have g1:=C8 t ts hT hf.left he;have s2:=DD l _ g1.ok (hf.right g1) L;refine⟨λk hk=>?_,λk hk=>?_,λg=>s2.lk (s1.lk g)⟩
  .rw[pW]at hk;by_cases O:t.op=1
   .rw[gh O]at hk s1;simp only[iq,not_or]at hk;exact(s2.vis k hk.2).trans (s1.vis k W)
   rw[gg O]at hk s1;exact(s2.vis k hk).trans (s1.vis k Z)
  exact Qdz
end
theorem TR.blk{l:List St}{ts:TS}{vars:ui}{loops:List na}(h:TR ts vars loops)(hT:TOk ts)(hf:fresh (vg l) ts)(L:(sw l ts).1=0):TR (wy l (sw l) ts).2 vars loops:=by
 have g:=kY l ts hT hf L;have s:=SV.blk hT hf g (DD l ts hT hf L) L;have e:(wy l (sw l) ts).2.all=(sw l ts).2.all:=ff;have sub:∀k,k∈uo ts.all->k∈uo (wy l (sw l) ts).2.all:=λk hk=>by
  rw[e];rcases hx:pb ts.all k with _|v
  .grind[sM]
  have:=g.mono _ _ hx;exact Classical.byContradiction λhn=>by rw[sM.2 hn]at this;cases this
 refine⟨λk=>(s.vis k Z).trans (h.vis k),λk hk=>?_,λk hk=>sub k (h.lin k hk),s.lk h.lk,h.ty⟩;by_cases hn:k∈vg l
 .have O:=hf.2 k hn;exact(h.keys hT O hk).elim
 rw[s.lp k hn];exact h.lp k hk
mutual
theorem XP:∀(t:St) (d:Nat) (ts:TS) (vars:ui) (loops:List na),aC t d->TOk ts->fresh (qZ t) ts->TR ts vars loops->jN t vars loops=(bY t ts).1/\((bY t ts).1=0->TR (bY t ts).2 (if t.op=1 then vars++[(t.name,(sf vars t).1)]else vars) loops)
 | .mk op name mx a b body els,d,ts,vars,loops,pg,hT,hf,h=>by
  obtain⟨t,ht⟩:∃t:St,t=.mk op name mx a b body els:=⟨_,rfl⟩
  have aF:t.body=body:=fm;have lH:t.els=els:=fm;rw[<-ht]at pg hf|-;have zi:=(dZ _ _).1 pg;rw[zY]at hf;rw[BO];unfold uC;rw[KX h.vis t];have p8:=D6 pg;by_cases he:(sf vars t).2.2≠0
  .grind[Az]
  rw[gg he];have he:(sf vars t).2.2=0:=J;by_cases O:t.op=1
  .rw[gh O,gh O];have e:jN t vars loops=0:=qg0;rw[e];refine⟨rfl,λ_=>?_⟩;rw[gh (.inl O)]at hf;have G:1<=(sf vars t).1/\(sf vars t).1<=3:=by simp_all[sf,K6]
   exact h.decl hT (hf.2 t.name Z) G.1 G.2
  rw[gg O,gg O];by_cases U:t.op=2
  .rw[gh U];have e:jN t vars loops=vN vars loops t.name (sf vars t).1:=qg0;rw[e];unfold vN;rw[h.vis];rcases hx:pb vars t.name with _|ty
   .exact⟨rfl,λg=>by cases g⟩
   have hty:=h.ty _ _ hx;have hv:dH (some ty)=(ty,0):=by grind[dH]
   rw[hv];simp only[ne_eq,qjz,jg];have hk:t.name∈uo vars:=Classical.byContradiction λhn=>by rw[sM.2 hn]at hx;cases hx
   have hl:=h.lp t.name hk;refine⟨?_,λ_=>h⟩;by_cases hm:qa loops t.name=true
   .rw[gh hm,gh (hl.2 (aD.1 hm))]
   rw[gg hm,gg (λg=>hm (aD.2 (hl.1 g)))];by_cases hq:ty=(sf vars t).1
   .omega
   omega
  rw[gg U];by_cases h3:t.op=3
  .grind[Az,yy]
  rw[gg h3];by_cases h4:t.op=4
  .grind[Az,yy]
  rw[gg h4];by_cases h7:t.op=7
  .grind[Az,yy]
  rw[gg h7];by_cases h5:t.op=5
  .rw[gh h5];rw[gg J,ke]at hf;by_cases hq:(sf vars t).1≠3
   .grind[Az,yy]
   rw[gg hq];have hq':(sf vars t).1=3:=J;have e:jN t vars loops=if yi t.body vars loops=0 then yi t.els vars loops else yi t.body vars loops:=qg0;rw[e];have r1:yi t.body vars loops=(sw t.body ts).1:=by have lD:=hf.left;rw[aF]at lD|-;exact DA body (d+1) ts vars loops W hT lD h
   rw[r1];by_cases hz:(sw t.body ts).1=0
   .have hb0:(wy t.body (sw t.body) ts).1=0:=by unfold wy;rw[gg (by simp[hz])]
    rw[hz,gh rfl,gg (by simp[hb0])];have g1:=TGo.blk (l:=t.body) (f:=sw t.body) (λg=>kY t.body ts hT hf.left g) hb0;have hf2:=hf.right g1;have hR:=h.blk hT hf.left hz;have r2:yi t.els vars loops=(sw t.els (wy t.body (sw t.body) ts).2).1:=by have lD:=hf2;rw[lH]at lD|-;exact DA els (d+1) _ vars loops W g1.ok lD hR
    rw[r2];exact⟨by rw[Ru],λg=>hR.blk g1.ok hf2 (Ep g)⟩
   grind[wy]
  rw[gg h5];by_cases h6:t.op=6
  .rw[gh h6];rw[gh (.inr h6)]at hf;by_cases hq:(sf vars t).1≠1\/(sf vars t).2.1≠1
   .grind[Az,yy]
   rw[gg hq];have hq':(sf vars t).1=1/\(sf vars t).2.1=1:=J;have e:jN t vars loops=yi t.body (vars++[(t.name,1)]) (loops++[t.name]):=qg0;rw[e];have hn:=hf.2 t.name Z;have g0:=TGo.set hT hn 1 (qc ts.loops t.name true);have qV:=(hf.right g0).left;have hR:=h.loop hT hn;have r1:yi t.body (vars++[(t.name,1)]) (loops++[t.name])=(sw t.body ⟨qc ts.visible t.name 1,qc ts.loops t.name true,qc ts.all t.name 1⟩).1:=by have lD:=qV;rw[aF]at lD|-;exact DA body (d+1) _ _ _ W g0.ok lD hR
   rw[r1];refine⟨?_,λg=>?_⟩
   .simp[Ru]
   have hz:=Ep g;have qM:=hR.blk g0.ok qV hz;have g1:=TGo.blk (l:=t.body) (f:=sw t.body) (λg=>kY t.body _ g0.ok qV g) g;have hsv:=P3 t ts hT (by grind[zY]) (by rw[BO];unfold uC;rw[KX h.vis t,gg fx,gg O,gg U,gg h3,gg h4,gg h7,gg h5,gh h6,gg hq];exact g)
   have hsT:(bY t ts).2=⟨oK (wy t.body (sw t.body) ⟨qc ts.visible t.name 1,qc ts.loops t.name true,qc ts.all t.name 1⟩).2.visible t.name,(wy t.body (sw t.body) ⟨qc ts.visible t.name 1,qc ts.loops t.name true,qc ts.all t.name 1⟩).2.loops,(wy t.body (sw t.body) ⟨qc ts.visible t.name 1,qc ts.loops t.name true,qc ts.all t.name 1⟩).2.all⟩:=by rw[BO];unfold uC;rw[KX h.vis t,gg fx,gg O,gg U,gg h3,gg h4,gg h7,gg h5,gh h6,gg hq]
   rw[hsT,gg O]at hsv;refine⟨λk=>(hsv.vis k Z).trans (h.vis k),λk hk=>?_,λk hk=>qM.lin k fq,qM.lk,h.ty⟩;have nv:k≠t.name:=λe=>by subst e;exact h.keys hT hn hk
   have:=qM.lp k ((Ie _ _ _ _).2 (.inl hk));grind
  grind[Az,yy]
theorem DA:∀(l:List St) (d:Nat) (ts:TS) (vars:ui) (loops:List na),eZ l d->TOk ts->fresh (vg l) ts->TR ts vars loops->yi l vars loops=(sw l ts).1
 | [],d,ts,vars,loops,_,_,_,_=>by rw[yi,sw]
 |t::l,d,ts,vars,loops,pg,hT,hf,h=>by
  rw[vg]at hf;have r1:=XP t d ts vars loops (pg t Z) hT hf.left h;rw[yi,sw,r1.1];by_cases he:(bY t ts).1≠0
  .grind
  rw[gg he,gg he];have he:(bY t ts).1=0:=J;have g1:=C8 t ts hT hf.left he;exact DA l d _ _ _ (λx hx=>pg x be) g1.ok (hf.right g1) (r1.2 he)
end
def pO:List na->List na->Bool
 |_,[]=>false
 |qf,x::l=>qa qf x||pO (qf++[x]) l
theorem I9:∀(l qf:List na),pO qf l=false↔l.Nodup/\∀x∈l,x∉qf
 | [],qf=>by simp[pO]
 |x::l,qf=>by
  have hk:qa qf x=false↔x∉qf:=by grind[aD]
  rw[pO,qka,I9 l (qf++[x]),l7,hk];grind
theorem ql1(l:List na):vJ [] l=pO [] l:=by grind[uo,Iv,I9]
abbrev tP(l:List Param):ui:=l.map λp=>(p.name,p.ty)
def Ch(p:Proc):Int :=
 if zo p≠0 then zo p
 else if p.params.any (λx=>decide (x.ty=3))then 10
 else if pO [] (gC p)then 8
 else yi p.body (tP p.params) []
theorem TR.params:∀(ps qf:List Param) (ts:TS),TOk ts->fresh (ps.map (·.name)) ts->TR ts (tP qf) []->(∀x∈ps,1<=x.ty/\x.ty<=3)->TR (jA ps ts) (tP (qf++ps)) []
 | [],qf,ts,_,_,h,_=>by rw[jv];exact h
 |x::l,qf,ts,hT,hf,h,ht=>by
  have hd:jA (x::l) ts=jA l (ts.decl x.name x.ty):=rfl;rw[hd];have lD:fresh ([x.name]++l.map (·.name)) ts:=hf
  have hn:=lD.2 x.name Z;have g:=TGo.set hT hn x.ty ts.loops;have hx:=ht x Z;have:=TR.params l (qf++[x]) (ts.decl x.name x.ty) g.ok (lD.right g) (by
   have e:tP (qf++[x])=tP qf++[(x.name,x.ty)]:=by simp[tP]
   rw[e];exact h.decl hT hn hx.1 hx.2) (λy hy=>ht y c0)
  rw[jf]at this;exact this
def Q9:∀(l qf:List Param),rV qf l=0->∀x∈l,1<=x.ty/\x.ty<=3
 | [],qf,_=>by simp
 |x::l,qf,h=>by
  rw[rV]at h;split at h
  .cases h
  split at h
  .cases h
  rename_i U;split at h
  .cases h
  intro y hy;rcases iq.1 hy with rfl|hy
  .omega
  exact Q9 l _ h y hy
def Sk{p:Proc}(h:zo p=0):∀x∈p.params,1<=x.ty/\x.ty<=3:=by
 unfold zo at h;split at h
 .cases h
 split at h
 .omega
 rename_i O;simp only[Decidable.not_not]at O;unfold tM at O;split at O
 .cases O
 exact Q9 _ _ O
theorem PI(p:Proc):Ch p=jK p:=by
 unfold Ch jK;rw[ql1];by_cases hv:zo p≠0
 .omega
 rw[gg hv,gg hv];have hv:zo p=0:=J;by_cases h3:(p.params.any λx=>decide (x.ty=3))=true
 .grind
 rw[gg h3,gg h3];by_cases hd:pO [] (gC p)=true
 .grind
 rw[gg hd,gg hd];have hd:pO [] (gC p)=false:=W;rw[E7 hv]at hd;have sP:=((I9 _ []).1 hd).1;have hF:fresh (p.params.map (·.name)++vg p.body) ⟨[],[],[]⟩:=⟨sP,by simp[uo]⟩
 have hT0:TOk ⟨[],[],[]⟩:=⟨by simp[uo],.refl _⟩
 have gP:=IW p.params ⟨[],[],[]⟩ hT0 hF.left;have hR0:TR ⟨[],[],[]⟩ (tP []) []:=⟨λ_=>rfl,λk hk=>(by cases hk),λk hk=>(by cases hk),λk v hk=>(by grind[pb]),λk v hk=>(by grind[pb])⟩
 have hR:=TR.params p.params [] _ hT0 hF.left hR0 (Sk hv);rw[DA p.body 1 _ _ _ (CC hv) gP.ok (hF.right gP) W];unfold nV wy;grind
end
abbrev mW(n:Int):Int:=mn n 16385
mutual
def oO:Ex->Int
 | .mk op _ _ args=>oC args (if op=22\/op=23\/op=24 then 1 else 0)
def oC:List Ex->Int->Int
 | [],n=>n
 |e::l,n=>oC l (mW (p9 (n+oO e)))
end
theorem qo9(e:Ex):oO e=oC e.args (if e.op=22\/e.op=23\/e.op=24 then 1 else 0):=by cases e;rw[oO];rfl
mutual
theorem Is:∀(e:Ex),oO e=mn (gE e) 16385
 | .mk op n s args=>by
  have m0:(0:Int)=mn (0:Nat) 16385:=ax;have m1:(1:Int)=mn (1:Nat) 16385:=ax;rw[oO,gE];split
  .rw[m1,HY]
  rw[m0,HY]
theorem HY:∀(l:List Ex) (N:Nat),oC l (mn N 16385)=mn (N+gL l:Nat) 16385
 | [],N=>by rw[oC,gL];rfl
 |e::l,N=>by rw[oC,Is e,mW,Ey,HY l,gL,qjl]
end
def vD(t:St):Cnt:=⟨1,mW (p9 (oO t.a+oO t.b)),if t.op=3\/t.op=4 then 1 else 0,if t.op=7 then 1 else 0⟩
def Cnt.rtimes(n:Int)(x:Cnt):Cnt:=⟨mW (p9 (n * x.st)),mW (p9 (n * x.ge)),mW (p9 (n * x.pu)),mW (p9 (n * x.em))⟩
mutual
def DO:St->Cnt
 | .mk op name m a b body els =>
  let x:=vD (.mk op name m a b body els)
  let x:=if op=5 then x.plus ((uN body ⟨0,0,0,0⟩).larger (uN els ⟨0,0,0,0⟩))else x
  if op=6 then(x.plus (Cnt.rtimes m (uN body ⟨0,0,0,0⟩))).plus ⟨m,0,0,0⟩else x
def uN:List St->Cnt->Cnt
 | [],c=>c
 |t::l,c=>uN l (c.plus (DO t))
end
section
variable{t:St}{d:Nat}{l:List St}
abbrev zZ(l:List St):Cnt:=uN l ⟨0,0,0,0⟩
theorem Mf(t:St):DO t =
  (let x:=vD t
  let x:=if t.op=5 then x.plus ((zZ t.body).larger (zZ t.els))else x
  if t.op=6 then(x.plus (Cnt.rtimes t.max (zZ t.body))).plus ⟨t.max,0,0,0⟩else x):=by cases t;rw[DO];rfl
theorem Lf{e:Ex}(h:kP e=true):gE e=0:=by simp_all[gy,qoj,ko,gL,kP]
theorem QH(h:aC t d)(h3:¬(t.op=3\/t.op=6)):kP t.b=true:=by
 have O:=((dZ t d).1 h).1;have hs:fG t (vz t.op).1=true:=fp;have Q:(vz t.op).1.b=false:=by grind[vz]
 unfold fG at hs;simp[Q]at hs;exact hs.1.1.1.1.2
theorem qpg(h:aC t d)(h8:t.op=8):kP t.a=true:=by
 have O:=((dZ t d).1 h).1;have hs:fG t (vz t.op).1=true:=fp;have Q:(vz t.op).1.a=false:=by rw[h8];rfl
 unfold fG at hs;simp[Q]at hs;exact hs.1.1.1.1.1.2
def n1(t:St):N4:=⟨1,gE t.a+gE t.b,if t.op=3\/t.op=4 then 1 else 0,if t.op=7 then 1 else 0⟩
theorem qpf(t:St):vD t=ym (n1 t):=by
 have m0:mn 0 16385=0:=ax;have m1:mn 1 16385=1:=ax;unfold vD ym n1;rw[Is,Is,mW,Ey];have e1:mn ((1:Nat):Int) 16385=1:=m1;have e2:∀P:Prop,[Decidable P]->mn (((if P then 1 else 0:Nat):Nat):Int) 16385=if P then 1 else 0:=λP _=>by by_cases h:P<;>simp[h,m0,m1]
 simp only[e1,e2]
theorem qk9(n:Int)(x:Cnt):Cnt.rtimes n x=x.times n:=by simp[Cnt.rtimes,Cnt.times,Int.mul_comm]
theorem Vg(h:aC t d):n1 t=N4.one.add ⟨0,(n0 t.op t.max t.a t.b).ge,(n0 t.op t.max t.a t.b).pu,(n0 t.op t.max t.a t.b).em⟩:=by
 unfold n1 N4.one N4.add n0;simp only[im,jt,N4.mk.injEq,true_and,and_true];by_cases h8:t.op=8
 .rw[gh h8,Lf (qpg h h8),Lf (QH h J),gg J]
 rw[gg h8];by_cases h3:t.op=3\/t.op=6
 .grind
 rw[gg h3,Lf (QH h h3)]
def Ij:∀(x:N4),(∀t∈l,DO t=ym (N4.one.add (nS t)))->uN l (ym x)=ym (x.add (nL l)):=by
 induction l with
 |nil=>intro x _;rw[uN,nL];rfl
 |cons t l ih =>
  intro x h;rw[uN,h t Z,CN,ih _ (λy hy=>h y c0),nL];simp only[N4.add,qjl]
def K4:∀(t:St) (d:Nat),aC t d->DO t=ym (N4.one.add (nS t))
 | .mk op name mx a b body els,d,h=>by
  have O:=(dZ _ _).1 h;have hb:zZ body=ym (nL body):=by
   have:=Ij (l:=body) .zero λx hx=>by have:=km (show x∈body from hx);exact K4 x (d+1) (O.2.1 x hx)
   rw[CE,zero_add]at this;exact this
  have he:zZ els=ym (nL els):=by
   have:=Ij (l:=els) .zero λx hx=>by have:=km (show x∈els from hx);exact K4 x (d+1) (O.2.2 x hx)
   rw[CE,zero_add]at this;exact this
  obtain⟨t,ht⟩:∃t:St,t=.mk op name mx a b body els:=⟨_,rfl⟩
  have aF:t.body=body:=fm;have lH:t.els=els:=fm;rw[<-ht]at h|-;rw[<-aF]at hb;rw[<-lH]at he;rw[Mf,PQ,qpf,Vg h];simp only;by_cases h5:t.op=5
  .rw[gh h5,gh h5,gg J,hb,he,O1,CN];congr 1;simp[N4.add,N4.one,n0,h5,qjl]
  by_cases h6:t.op=6
  .have hm:=DS h h6;have e1:(⟨t.max,0,0,0⟩:Cnt)=ym ⟨t.max.toNat,0,0,0⟩:=by grind[L8,ym]
   rw[gg h5,gh h6,gg h5,gh h6,qk9,hb,NW hm.1 hm.2,e1,CN,CN];congr 1;simp[N4.add,N4.one,N4.mul,n0,h6];omega
  grind[Rs,N4.add,N4.one,n0]
termination_by t=>SizeOf.sizeOf t
decreasing_by
 all_goals
  simp only[St.mk.sizeOf_spec];omega
def qlw(h:eZ l d):zZ l=yp l:=by have:=Ij (l:=l) .zero λx hx=>K4 x d (h x hx);rw[CE,zero_add]at this;rw[M0 h];exact this
abbrev oR(e:Ex):List Int:=(qD e).map (·.op)
abbrev tW(l:List Ex):List Int:=(dI l).map (·.op)
theorem TY(e:Ex):oR e=e.op::tW e.args:=by simp[oR,tW,Lp]
theorem OT(e:Ex)(l:List Ex):tW (e::l)=oR e++tW l:=by simp[oR,tW,dI]
def yS:List Int->Int->Int×Int×Bool
 | [],_=>(0,0,false)
 |o::l,k=>if uP o then(o,k,true)else yS l (k+1)
theorem SH:∀(l:List Ex) (k:Int),Cq l k=yS (l.map (·.op)) k
 | [],k=>rfl
 |e::l,k=>by simp[Cq,jd,yS,SH]
theorem qss{p:Proc}(h:zo p=0):tI p=yS (tW (yt p)) 0:=by unfold tI;rw[gg cn,SH]
end
theorem Jd{n:Int}(h:9223372036854775807<n)(U:n<27670116110564327424):p9 n=n - 18446744073709551616:=by exact Qea
theorem Ou{n:Int}(h:n < -9223372036854775808)(U:-27670116110564327424<=n):p9 n=n+18446744073709551616:=by exact Qea
theorem oH{n:Int}(h:i64 n):p9 n=n:=sK (by have:=h.1;omega) (by have:=h.2;omega)
def Td(n:Int):∃k:Int,p9 n=n+18446744073709551616 * k:=by
 unfold p9;simp only[IntKind.wrap,IntKind.bits,IntKind.signed];simp;split
 .exact⟨-(n / 18446744073709551616) - 1,J⟩
 exact⟨-(n / 18446744073709551616),J⟩
def qlk{a b:Int}(ha:i64 a)(hb:i64 b):((0<b/\p9 (9223372036854775807 - b)<a)\/(b<0/\a<p9 (-9223372036854775808 - b)))↔((0<b/\p9 (a+b)<a)\/(b<0/\a<p9 (a+b))):=by
 obtain⟨a1,a2⟩:=ha;obtain⟨b1,b2⟩:=hb;by_cases h:0<b
 .rw[oH (n:=9223372036854775807 - b) ⟨J,J⟩];by_cases U:a+b<=9223372036854775807
  .rw[oH (n:=a+b) ⟨J,U⟩];omega
  grind[Jd]
 by_cases L:b=0
 .omega
 rw[oH (n:=-9223372036854775808 - b) ⟨J,J⟩];by_cases U:-9223372036854775808<=a+b
 .rw[oH (n:=a+b) ⟨U,J⟩];omega
 grind[Ou]
def qr4{a b:Int}(ha:i64 a)(hb:i64 b):((b<0/\p9 (9223372036854775807+b)<a)\/(0<b/\a<p9 (-9223372036854775808+b)))↔((0<b/\a<p9 (a - b))\/(b<0/\p9 (a - b)<a)):=by
 obtain⟨a1,a2⟩:=ha;obtain⟨b1,b2⟩:=hb;by_cases h:0<b
 .rw[oH (n:=-9223372036854775808+b) ⟨J,J⟩];by_cases U:-9223372036854775808<=a - b
  .rw[oH (n:=a - b) ⟨U,J⟩];omega
  grind[Ou]
 by_cases L:b=0
 .omega
 rw[oH (n:=9223372036854775807+b) ⟨J,J⟩];by_cases U:a - b<=9223372036854775807
 .rw[oH (n:=a - b) ⟨J,U⟩];omega
 grind[Jd]
theorem YG{a:Int}(ha:i64 a):aE 0 a=eF a:=by
 obtain⟨a1,a2⟩:=ha;unfold aE eF;have e:(0:Int) - a = -a:=J;rw[e];by_cases h:a = -9223372036854775808
 .grind[Jd]
 rw[gg h,oH (n:=-a) ⟨J,J⟩,gg J]
def eK(a:Int):Int:=if a<0 then -a else a
theorem qo4{a:Int}(ha:i64 a):IntKind.u64.wrap (0 - IntKind.u64.wrap a)=if a<0 then -a else if a=0 then 0 else 18446744073709551616 - a:=by obtain⟨a1,a2⟩:=ha;exact Qdm
theorem Db{a:Int}(L:0<=a)(O:a<18446744073709551616):IntKind.u64.wrap a=a:=by exact Qdm
def qnc{a b:Int}(ha:i64 a)(hb:i64 b)(L:a≠0)(O:b≠0):(i64 (a * b)->kF a b=(a * b,0))/\(¬i64 (a * b)->kF a b=(0,3)):=by
 obtain⟨a1,a2⟩:=ha;obtain⟨b1,b2⟩:=hb;unfold kF;rw[gg J];by_cases hm:a = -1
 .grind[oH,eF,i64]
 rw[gg hm];by_cases hn:b = -1
 .grind[oH,eF,i64]
 rw[gg hn];refine⟨λh=>?_,λh=>?_⟩
 .rw[oH h,Int.mul_tdiv_cancel a O,oH ⟨a1,a2⟩,gg Z]
 rw[gh];intro he;obtain⟨k,hk⟩:=Td (a * b);obtain⟨w,hw⟩:=Qaj (p9 (a * b))
 have hwi:i64 w:=by grind[wC]
 rw[hw]at he hk;have hq:(w.tdiv b).natAbs<=w.natAbs:=by rw[Int.natAbs_tdiv];exact Nat.div_le_self _ _
 have hq2:b≠-1:=hn;have hqi:i64 (w.tdiv b):=by
  obtain⟨w1,w2⟩:=hwi;have rM:2<=b.natAbs\/b=1:=J;rcases rM with rM|rM
  .have:(w.tdiv b).natAbs<=w.natAbs / 2:=by
    rw[Int.natAbs_tdiv];exact Nat.div_le_div_left rM ax
   exact⟨J,J⟩
  rw[rM,Int.tdiv_one];exact⟨w1,w2⟩
 rw[oH hqi]at he;have hd:=Int.mul_tdiv_add_tmod w b;rw[he,Int.mul_comm b a]at hd;have G:(w.tmod b).natAbs<b.natAbs:=by rw[Int.natAbs_tmod];exact qik _ J
 have hkz:k=0:=J;subst hkz;apply h;rw[<-show w=a * b by omega];exact hwi
def Oh{a b:Int}(ha:i64 a)(hb:i64 b)(L:a≠0)(O:b≠0)(h0:Int)(hL:h0=if (decide (a<0)≠decide (b<0))then 9223372036854775808 else 9223372036854775807):h0.tdiv (eK b)<eK a↔¬i64 (a * b):=by
 have hbp:0<eK b:=qib;have hap:0<eK a:=qib;have hL0:0<=h0:=J;rw[Int.tdiv_eq_ediv_of_nonneg hL0,Int.ediv_lt_iff_lt_mul hbp];have hp:eK a * eK b=if (decide (a<0)≠decide (b<0))then -(a * b)else a * b:=by grind[Int.neg_mul,Int.mul_neg,eK]
 have hpos:0<eK a * eK b:=Int.mul_pos hap hbp;rw[hp]at hpos|-;rw[hL];unfold i64;obtain⟨p,hpp⟩:=Qaj (a * b)
 rw[hpp]at hpos|-;split
 .grind
 grind
def wK(u:Nat):na:=⟨#[UInt8.ofNat (48+u % 10)]⟩
theorem S8{u:Nat}(h:10<=u):Lib.decDigits u=Lib.decDigits (u / 10)++[UInt8.ofNat (48+u % 10)]:=by rw[Lib.decDigits,dif_neg J]
theorem qlm{u:Nat}(h:u<10):Lib.decDigits u=[UInt8.ofNat (48+u)]:=by rw[Lib.decDigits,dif_pos h]
def tQ(u:Nat)(s:na):List UInt8:=if u=0/\s≠em then bl s else Lib.decDigits u++bl s
theorem qnk{u:Nat}{s:na}(h:0<u\/s=em):tQ (u / 10) (wK u++s)=tQ u s:=by
 have nv:wK u++s≠em:=λe=>by have:=congrArg ByteArray.size e;rw[qj1]at this;have O:(wK u).size=1:=rfl;have U:ByteArray.size em=0:=rfl;omega
 have hb:bl (wK u++s)=UInt8.ofNat (48+u % 10)::bl s:=by simp[bl,wK]
 have G:tQ u s=Lib.decDigits u++bl s:=by grind[tQ]
 rw[G];unfold tQ;by_cases h10:u<10
 .grind[qlm]
 grind[S8,jf]
def Zr(u:Nat)(s:na):s.size<=(tQ u s).length:=by
 have h:(bl s).length=s.size:=rfl;unfold tQ;split
 .omega
 simp;omega
theorem qqi{s:na}(h:s≠em):tQ 0 s=bl s:=by grind[tQ]
def Sw{a b:na}(h:bl a=bl b):a=b:=by
 cases a with
 |mk x=>cases b with
  |mk y=>simp[bl]at h;subst h;rfl
section
section
variable{r p:Nat}{m:RM}
structure RInv(r p:Nat)(m:RM):Prop where
 vr:∀q∈m.vars,r6 q.v
 wr:∀q∈m.own,r6 q.v
 s0:0<=m.steps
 s1:m.steps<=16384
 rd:((m.reads.length+r:Nat):Int)<=8192 * m.steps+8192
 pt:((m.puts.length+p:Nat):Int)<=m.steps
 ow:((m.own.length+p:Nat):Int)<=m.steps
 va:((m.vars.length+p:Nat):Int)<=m.steps+34359738368
 ot:m.out.length<=16
theorem RInv.mono{r' p':Nat}(h:RInv r p m)(O:r'<=r)(U:p'<=p):RInv r' p' m :=
 ⟨h.vr,h.wr,h.s0,h.s1,by have:=h.rd;omega,by have:=h.pt;omega,by have:=h.ow;omega,by have:=h.va;omega,h.ot⟩
theorem RInv.lenR(h:RInv r p m):m.reads.length<=134225920:=by have:=h.rd;have:=h.s1;omega
theorem RInv.lenP(h:RInv r p m):m.puts.length<=16384:=by have:=h.pt;have:=h.s1;omega
theorem RInv.lenO(h:RInv r p m):m.own.length<=16384:=by have:=h.ow;have:=h.s1;omega
theorem RInv.lenV(h:RInv r p m):m.vars.length<=34359754752:=by have:=h.va;have:=h.s1;omega
theorem HE(l:List Pr)(p:Pr):(yj l p).length<=l.length+1:=by grind[yj,yI,HG]
theorem KM{l:List Pr}{p q:Pr}(h:q∈yj l p):q=p\/q∈l:=by grind[yj]
theorem qoo(op a b:Int):fF op a b=yz (mQ op a b):=by grind[fF,mQ]
theorem Tj{op a b:Int}(hb:i64 b)(h:(mQ op a b).2=0):i64 (mQ op a b).1:=by have:=LN (op:=op) (a:=a) (v:=vI (mQ op a b).1) hb (by grind[qoo,yz]);exact this.1
theorem LZ{x:Int×Int}(h:RInv r p m)(hx:x.2=0->i64 x.1)(L:(jC m x).2.st=0):RInv r p (jC m x).2/\r6 (jC m x).1:=by
 unfold jC at L|-;split at L
 .exact Qeb
 rename_i h4;split at L
 .exact Qeb
 rename_i h5;rw[gg h4,gg h5];exact⟨h,oV (hx J)⟩
end
section
variable {C:Cfg} (hC:bU C)
include hC
section
variable{r p:Nat}{m:RM}
theorem Uv(h:RInv (r+1) p m)(k:na)(L:(u7 C m k).2.st=0):RInv r p (u7 C m k).2/\r6 (u7 C m k).1:=by
 unfold u7 at L|-;split at L
 .exact Qeb
 rename_i O;rw[gg O];split at L
 .rename_i U;rw[gh U];exact⟨h.mono J (gj _),Ha h.wr k⟩
 rename_i U;rw[gg U];split at L
 .grind[RM.rst]
 rename_i h3;rw[gg h3];refine⟨⟨h.vr,h.wr,h.s0,h.s1,?_,h.pt,h.ow,h.va,h.ot⟩,Ha hC k⟩;have:=B8 m.reads k;have:=h.rd;grind
theorem Ui(h:RInv r p m){op:Int}{a b:AV}(ha:r6 a)(hb:r6 b)(L:(fP m op a b).2.st=0):RInv r p (fP m op a b).2/\r6 (fP m op a b).1:=by
 unfold fP at L|-;split at L
 .rename_i O;rw[gh O];split at L
  .rename_i U;rw[gh U];exact LZ h (λhz=>Tj hb.1 hz) L
  exact Qeb
 rename_i O;rw[gg O];split at L
 .rename_i U;rw[gh U];split at L
  .rename_i h3;rw[gh h3];exact⟨h,wJ _⟩
  exact Qeb
 rename_i U;rw[gg U];split at L
 .rename_i h3;rw[gh h3];split at L
  .rename_i h4;rw[gh h4];exact⟨h,wJ _⟩
  exact Qeb
 rename_i h3;rw[gg h3];split at L
 .rename_i h4;rw[gh h4];split at L
  .rename_i h5;rw[gh h5];split at L
   .exact Qeb
   rename_i h6;rw[gg h6];refine⟨h,⟨ed,ed⟩,?_⟩;have h7:p9 ((a.s.size:Int)+b.s.size)=(a.s.size:Int)+b.s.size:=sK J (by have:=ha.2;have:=hb.2;omega);grind[vS,qj1]
  exact Qeb
 rename_i h4;rw[gg h4];split at L
 .rename_i h5;rw[gh h5];exact⟨h,wJ _⟩
 exact Qeb
theorem Uh(hf:∀n,i64 n->tv (C.fmt n)=true)(h:RInv (r+1) p m){op:Int}{a:AV}(ha:r6 a)(L:(bR C m op a).2.st=0):RInv r p (bR C m op a).2/\r6 (bR C m op a).1:=by
 have Y:=h.mono (show r<=r+1 by omega) (gj p);unfold bR at L|-;split at L
 .exact Qeb
 rename_i O;rw[gg O];split at L
 .rename_i U;rw[gh U];exact LZ Y (λ_=>HN _) L
 rename_i U;rw[gg U];split at L
 .rename_i h3;rw[gh h3];exact⟨Y,wJ _⟩
 rename_i h3;rw[gg h3];split at L
 .rename_i h4;rw[gh h4];have hp:=hf _ ha.1;unfold tv at hp;simp only[gy,jm]at hp;exact⟨Y,⟨ed,ed⟩,by simp only[vS];omega⟩
 rename_i h4;rw[gg h4];split at L
 .rename_i h5;rw[gh h5];exact⟨Y,oV ⟨J,ec⟩⟩
 rename_i h5;rw[gg h5];simp only at L|-;split at L
 .grind
 rename_i h6;rw[gg h6];have hF:=Uv hC h a.s J;split at L
 .rename_i h7;rw[gh h7];exact⟨hF.1,wJ _⟩
 rename_i h7;rw[gg h7];split at L
 .rename_i h8;rw[gh h8];exact⟨hF.1,⟨Z,Z⟩,by simp[em]⟩
 exact Qeb
theorem Vl(hf:∀n,i64 n->tv (C.fmt n)=true)(h:RInv (r+1) p m){op:Int}{l:List AV}(hl:∀v∈l,r6 v)(L:(qB C m op l).2.st=0):RInv r p (qB C m op l).2/\r6 (qB C m op l).1:=by
 unfold qB at L|-;split at L
 .grind[Uh]
 .exact Ui hC (h.mono J (gj _)) (hl _ Z) (hl _ Z) L
 exact Qeb
end
mutual
theorem BV(hf:∀n,i64 n->tv (C.fmt n)=true):∀(e:Ex) (m:RM) (r p:Nat),zb e->RInv (r+nodes e) p m->m.st=0->(pm C e m).2.st=0->RInv r p (pm C e m).2/\r6 (pm C e m).1
 | .mk op n s args,m,r,p,hX,h,hm,L=>by
  have iC:=(xM _).1 hX;simp only[Ex.n,Ex.s,Ex.args]at iC;have hn:nodes (.mk op n s args)=lM args+1:=Cm _;rw[hn]at h;have Y:=h.mono (show r<=r+(lM args+1)by omega) (gj p);rw[pm]at L|-;split at L
  .rename_i O;rw[gh O];exact⟨Y,oV iC.1.1⟩
  rename_i O;rw[gg O];split at L
  .rename_i U;rw[gh U];exact⟨Y,⟨ed,ed⟩,iC.1.2⟩
  rename_i U;rw[gg U];split at L
  .rename_i h3;rw[gh h3];split at L
   .rename_i h4;rw[gh h4];exact⟨Y,Ha h.vr s⟩
   exact Qeb
  rename_i h3;rw[gg h3];simp only at L|-;split at L
  .grind
  rename_i h4;rw[gg h4];have hL:=NR hf args m (r+1) p iC.2 (h.mono J (gj _)) hm J;grind[Vl]
theorem NR(hf:∀n,i64 n->tv (C.fmt n)=true):∀(l:List Ex) (m:RM) (r p:Nat),(∀x∈l,zb x)->RInv (r+lM l) p m->m.st=0->(cF C l m).2.st=0->RInv r p (cF C l m).2/\∀v∈(cF C l m).1,r6 v
 | [],m,r,p,hX,h,hm,L=>by rw[cF];exact⟨h.mono J (gj _),Z⟩
 |e::l,m,r,p,hX,h,hm,L=>by
  rw[CP]at h;rw[cF]at L|-;simp only at L|-;split at L
  .grind
  rename_i O;rw[gg O];have hE:=BV hf e m (r+lM l) p (hX e Z) (h.mono J (gj _)) hm J;have hL:=NR hf l _ r p (λx hx=>hX x be) hE.1 J L;refine⟨hL.1,λv hv=>?_⟩;rcases iq.1 hv with rfl|hv
  .exact hE.2
  grind
end
end
section
variable{m:RM}{r p:Nat}{v:AV}
theorem GS(h:RInv 0 0 m)(L:(xz m).st=0):RInv 8192 1 (xz m):=by
 have e:p9 (m.steps+1)=m.steps+1:=sK (by have:=h.s0;omega) (by have:=h.s1;omega);unfold xz at L|-;rw[e]at L|-;split at L
 .exact Qeb
 rename_i O;rw[gg O];refine⟨h.vr,h.wr,by have:=h.s0;simp only;omega,by simp only;omega,?_,?_,?_,?_,h.ot⟩
 .have:=h.rd;simp only;omega
 .have:=h.pt;simp only;omega
 .have:=h.ow;simp only;omega
 have:=h.va;simp only;omega
theorem RInv.var(h:RInv r (p+1) m)(hv:r6 v)(k:na):RInv r p { m with vars:=yj m.vars ⟨k,v⟩ }:=by
 refine⟨λq hq=>?_,h.wr,h.s0,h.s1,h.rd,by have:=h.pt;simp only;omega,by have:=h.ow;simp only;omega,?_,h.ot⟩
 .rcases KM hq with rfl|hq
  .exact hv
  exact h.vr q hq
 have:=HE m.vars ⟨k,v⟩;have:=h.va;grind
theorem RInv.store{C:Cfg}(h:RInv r (p+1) m)(hv:r6 v)(k:na)(L:(kN C m k v).st=0):RInv r p (kN C m k v):=by
 unfold kN at L|-;split at L
 .exact Qeb
 rename_i O;rw[gg O];split at L
 .grind[RM.rst]
 rename_i U;rw[gg U];refine⟨h.vr,λq hq=>?_,h.s0,h.s1,h.rd,?_,?_,by have:=h.va;simp only;omega,h.ot⟩
 .rcases KM hq with rfl|hq
  .exact hv
  exact h.wr q hq
 .have:=B8 m.puts k;have:=h.pt;grind
 have:=HE m.own ⟨k,v⟩;have:=h.ow;grind
theorem RInv.emit(h:RInv r p m)(L:(qO m v).st=0):RInv r p (qO m v):=by
 unfold qO at L|-;split at L
 .exact Qeb
 rename_i O;rw[gg O];refine⟨h.vr,h.wr,h.s0,h.s1,h.rd,h.pt,h.ow,h.va,?_⟩;grind
theorem PL{body:RM->RM}{name:na}{b:Int}(hb:i64 b)(hB:∀m,RInv 0 0 m->m.st=0->(body m).st=0->RInv 0 0 (body m)):∀(f:Nat) (i:Int) (m:RM),i64 i->RInv 0 0 m->m.st=0->(fC body name b f i m).st=0->RInv 0 0 (fC body name b f i m)
 | 0,i,m,hi,h,hm,L=>by rw[fC];exact h
 |f+1,i,m,hi,h,hm,L=>by
  rw[fC]at L|-;by_cases O:i<b/\m.st=0
  .rw[gh O]at L|-;have hw:p9 (i+1)=i+1:=sK ez (by have:=hb.2;omega);by_cases U:(xz m).st=0
   .rw[gh U]at L|-;have ht:=(GS h U).var (p:=0) (oV hi) name;by_cases h3:(body { xz m with vars:=yj (xz m).vars ⟨name,vI i⟩ }).st=0
    .exact PL hb hB f _ _ (by rw[hw];exact⟨ez,by have:=hb.2;omega⟩) (hB _ (ht.mono J (gj _)) U h3) h3 L
    grind[EU]
   grind[EU]
  grind
end
section
variable {C:Cfg} (hC:bU C) (hf:∀n,i64 n->tv (C.fmt n)=true)
include hC hf
mutual
theorem No:∀(t:St) (d:Nat) (m:RM),aC t d->aR t->RInv 8192 1 m->m.st=0->(oD C t m).st=0->RInv 0 0 (oD C t m)
 | .mk op name mx a b body els,d,m,pg,hg,h,hm,L=>by
  have zi:=(dZ _ _).1 pg;have pa:=(uO _).1 hg;have p8:=D6 pg;simp only[St.op,St.a,St.b,St.body,St.els]at zi pa p8;rw[oD]at L|-;split at L
  .exact Qeb
  rename_i h8;rw[gg h8];split at L
  .omega
  rename_i O;rw[gg O];have hA:=BV hC hf a m 4097 1 (pa.1 h8).1 (h.mono (by have:=(pa.1 h8).2;omega) (gj _)) hm J;have hA0:=hA.1.mono (il _) (il _);split at L
  .rename_i U;rw[gh U];exact(hA.1.var hA.2 name).mono (il _) (gj _)
  rename_i U;rw[gg U];split at L
  .rename_i h3;rw[gh h3];exact(hA.1.store E2 _ L).mono (il _) (gj _)
  rename_i h3;rw[gg h3];split at L
  .rename_i h4;rw[gh h4];exact hA0.emit L
  rename_i h4;rw[gg h4];split at L
  .rename_i h5;rw[gh h5];split at L
   .rename_i h6;rw[gh h6];exact EK body (d+1) _ zi.2.1 pa.2.2.1 hA0 J L
   rename_i h6;rw[gg h6];exact EK els (d+1) _ zi.2.2 pa.2.2.2 hA0 J L
  rename_i h5;rw[gg h5];have hgb:=pa.2.1 J;split at L
  .omega
  rename_i h6;rw[gg h6];have hB:=BV hC hf b _ 0 1 hgb.1 (hA.1.mono (by have:=hgb.2;omega) (gj _)) J J;split at L
  .rename_i h7;rw[gh h7];exact(hB.1.store hB.2 _ L).mono (il _) (gj _)
  rename_i h7;rw[gg h7];split at L
  .exact Qeb
  rename_i h9;rw[gg h9];exact PL hB.2.1 (λm hm O U=>EK body (d+1) m zi.2.1 pa.2.2.1 hm O U) _ _ _ hA.2.1 (hB.1.mono (il _) (il _)) J L
theorem EK:∀(l:List St) (d:Nat) (m:RM),eZ l d->(∀x∈l,aR x)->RInv 0 0 m->m.st=0->(u6 C l m).st=0->RInv 0 0 (u6 C l m)
 | [],d,m,pg,hg,h,hm,L=>by rw[u6];exact h
 |t::l,d,m,pg,hg,h,hm,L=>by
  rw[u6,gg (by simp[hm])]at L|-;by_cases U:(xz m).st=0
  .rw[gh U]at L|-;have hT:=GS h U;by_cases h3:(oD C t (xz m)).st=0
   .exact EK l d _ (λx hx=>pg x be) (λx hx=>hg x be) (No t d _ (pg t Z) (hg t Z) hT U h3) h3 L
   grind[Di]
  grind[Di]
end
end
theorem Nq:∀(ps:List Param) (vs:List AV) (l:List Pr),(∀v∈vs,r6 v)->(∀q∈l,r6 q.v)->(∀q∈lT ps vs l,r6 q.v)/\(lT ps vs l).length<=l.length+ps.length
 | [],vs,l,hv,h=>by cases vs<;>exact⟨h,by simp[lT]⟩
 |x::ps,[],l,hv,h=>by refine⟨by simpa[lT]using h,by simp[lT]⟩
 |x::ps,v::vs,l,hv,h=>by
  rw[lT];have ih:=Nq ps vs (yj l ⟨x.name,v⟩) (λw hw=>hv w (by simp[hw])) (λq hq=>by
   rcases KM hq with rfl|hq
   .grind
   exact h q hq)
  grind[jp,HE]
end
def qla(e:Ex)(st:List Pr)(ft:Foot):Prop:=¬(te e 1≠0\/ph st=false\/vi ft.all ft.reads ft.writes=false)
instance (e:Ex) (st:List Pr) (ft:Foot):Decidable (qla e st ft):=inferInstanceAs (Decidable (¬_))
structure EvIn(fmt:Int->na)(e:Ex)(vs st:List Pr):Prop where
 fmt:∀n,i64 n->tv (fmt n)=true
 ex:zb e
 vars:∀q∈vs,r6 q.v
 st:∀q∈st,r6 q.v
 len:vs.length<=34359738368
section
variable {fmt:Int->na} {p:Proc} {args:List AV} {st:List Pr}
end
section
variable (fmt:Int->na)
structure Res where
 id:Int
 att:Int
 status:Int
 code:Int
 out:List AV
def Res.c(r:Res):List V:=[I r.id,I r.att,I r.status,I r.code,.slice (r.out.map AV.c)]
def Res.z:Res:=⟨0,0,0,0,[]⟩
end
section
variable {fmt:Int->na}
end
section
variable {fmt:Int->na}
structure Tal(h0:List Txn)(l:List Txn)(is:List Nat)(out:List Res):Prop where
 len:is.length=l.length
 ol:out.length=h0.length
 nod:is.Nodup
 lt:∀i∈is,i<h0.length
 id:∀j (h:j<l.length) (Y:j<is.length) (U:is[j]<h0.length),l[j].id=h0[is[j]].id
 done:∀i (h:i<h0.length) (Y:i<out.length),i∈is\/(out[i].id=h0[i].id/\(out[i].status=1\/out[i].status=2))
end
def Zs{a b:List Pr}(ha:q8 a)(hb:q8 b):q8 (cC a b).1:=by
 unfold cC;split
 .grind
 rename_i h;split
 .grind
 obtain⟨O,U⟩:=not_or.1 h;have cY:ph b=true:=W;have aN:y9 b=true:=by obtain⟨b1,b2,b3⟩:=(zz b).1 cY;exact(oN _).2 ⟨λq hq=>(b1 q hq).1,b2,b3⟩
 exact DV ha hb W aN
def V0(a b:List Pr):(cC a b).1.length<=a.length+b.length:=qhm
def LI:∀(l:List Shard) (out:List Pr),(∀x∈l,q8 x.prs)->q8 out->q8 (pE l out).1
 | [],out,_,h=>h
 |x::l,out,hl,h=>by
  rw[pE];split
  .grind
  exact LI l _ (λy hy=>hl y c0) (Zs h (hl x Z))
theorem RR:∀(l:List Shard) (out:List Pr),(pE l out).1.length<=out.length+(l.map λx=>x.prs.length).sum
 | [],out=>by simp[pE]
 |x::l,out=>by
  rw[pE];split
  .simp
  have O:=RR l (cC out x.prs).1;have U:=V0 out x.prs;simp only[jd,List.sum_cons];omega
def WM{l:List Shard}(h:∀x∈l,q8 x.prs):q8 (kT l).1:=by
 unfold kT;split
 .exact LI l [] h (by simp[q8])
 grind
def qma(l:List Shard):(kT l).1.length<=(l.map λx=>x.prs.length).sum:=by grind[kT,RR]
def NY:∀(l:List Shard),∀x∈l,x.prs.length<=(l.map λx=>x.prs.length).sum
 |y::l,x,hx=>by
  simp only[jd,List.sum_cons];rcases iq.1 hx with rfl|hx
  .omega
  have:=NY l x hx;omega
