/- Part 28 of a proof. -/
import Derived.Test.YtbimdamecieomaaGreatDoorR27
set_option linter.all false
namespace Go.Cw
open Go Go.Abs
abbrev nf:=List (g9×Int)
def subV(a b:nf):Prop:=∀k ty,jg a k=some ty→jg b k=some ty
theorem subV.refl(a:nf):subV a a:=fun _ _ h=>h
theorem subV.trans{a b c:nf}(h:subV a b)(g:subV b c):subV a c:=fun k ty e=>g k ty (h k ty e)
def ng{α:Type}(l:List (g9×α)):List g9:=l.map (·.1)
theorem qdp{α:Type}:∀{l:List (g9×α)} {k:g9},jg l k=none↔k∉ng l
 | [],k=>by simp[jg,ng]
 |p::l,k=>by
  have ih:=qdp (l:=l) (k:=k);simp only[jg,ng,c8,cw,not_or]at ih⊢;by_cases h:p.1=k
  ·simp[h]
  ·rw[if_neg h,ih];exact⟨fun g=>⟨fun e=>h e.symm,g⟩,fun g=>g.2⟩
theorem qde{α:Type}:∀(l:List (g9×α)) (k:g9) (v:α) (x:g9),x∈ng (js l k v)↔x=k∨x∈ng l
 | [],k,v,x=>by simp[js,ng]
 |p::l,k,v,x=>by
  have ih:=qde l k v x;rw[js];split
  ·rename_i h;subst h;simp[ng]
  ·simp only[ng,c8,cw]at ih⊢;rw[ih];constructor
   ·rintro(h|h|h)<;>simp[h]
   ·rintro(h|h|h)<;>simp[h]
theorem xn9{α:Type}:∀(l:List (g9×α)) (k:g9) (v:α),(ng l).Nodup→(ng (js l k v)).Nodup
 | [],k,v,_=>by simp[js,ng]
 |p::l,k,v,h=>by
  have h':p.1∉ng l∧(ng l).Nodup:=gg.1 h;rw[js];split
  ·rename_i e;subst e;exact h
  ·rename_i e;refine gg.2 ⟨fun hm=>?_,xn9 l k v h'.2⟩;rcases(qde l k v _).1 hm with e'|hm
   ·exact e e'
   ·exact h'.1 hm
theorem xdr{α:Type}:∀(l:List (g9×α)) (k:g9),(qp3 l k).Sublist l
 | [],_=>by simp[qp3]
 |p::l,k=>by
  rw[qp3];split
  ·exact List.sublist_cons_self _ _
  ·exact(xdr l k).cons₂ _
theorem xo8{α:Type}:∀{l:List (g9×α)} {k:g9} {v:α},(ng l).Nodup→(k,v)∈l→jg l k=some v
 |p::l,k,v,hd,h=>by
  have ws:p.1∉ng l∧(ng l).Nodup:=gg.1 hd;rw[jg];rcases cw.1 h with rfl|h
  ·simp
  ·rw[if_neg]
   ·exact xo8 ws.2 h
   ·intro e;exact ws.1 (dk.2 ⟨(k,v),h,e.symm⟩)
structure TOk(ts:TS):Prop where
 nod:(ng ts.visible).Nodup
 sub:subV ts.visible ts.all
theorem TOk.del{ts:TS}(h:TOk ts)(k:g9):TOk ⟨qp3 ts.visible k,ts.loops,ts.all⟩:=⟨h.nod.sublist ((xdr _ _).map _),fun x ty e=>h.sub x ty (by
 have:=(xdr ts.visible k).subset (qv7 e);exact xo8 h.nod this)⟩
theorem TOk.dels(b:List (g9×Bool))(a:nf):∀(l:List St) {vis:nf},TOk ⟨vis,b,a⟩→TOk ⟨qrp l vis,b,a⟩
 | [],vis,h=>h
 |t::l,vis,h=>by
  rw[qrp];refine TOk.dels b a l ?_;split
  ·exact h.del t.name
  ·exact h
theorem TOk.set{ts:TS}(h:TOk ts)(k:g9)(ty:Int)(lp:List (g9×Bool)):TOk ⟨js ts.visible k ty,lp,js ts.all k ty⟩:=⟨xn9 _ _ _ h.nod,fun x u e=>by
 simp only at e⊢;rw[qcz]at e⊢;split at e
 ·rename_i hk;rw[if_pos hk];exact e
 ·rename_i hk;rw[if_neg hk];exact h.sub x u e⟩
mutual
def nmS:St→List g9
 | .mk op name _ _ _ body els=>(if op=1∨op=6 then [name]else [])++(ou body++ou els)
def ou:List St→List g9
 | []=>[]
 |t::l=>nmS t++ou l
end
theorem qw3(t:St):nmS t=(if t.op=1∨t.op=6 then [t.name]else [])++(ou t.body++ou t.els):=by cases t;rw[nmS];rfl
structure TGo(ns:List g9)(ts ts':TS):Prop where
 ok:TOk ts'
 mono:subV ts.all ts'.all
 keys:∀k,k∈ng ts'.all→k∈ng ts.all∨k∈ns
theorem TGo.refl{ts:TS}(h:TOk ts)(ns:List g9):TGo ns ts ts:=⟨h,.refl _,fun _ h=>.inl h⟩
theorem TGo.mono'{ns ns':List g9}{ts ts':TS}(h:TGo ns ts ts')(hn:∀k∈ns,k∈ns'):TGo ns' ts ts':=⟨h.ok,h.mono,fun k hk=>(h.keys k hk).imp id (hn k)⟩
theorem TGo.trans{a b:List g9}{s t u:TS}(h:TGo a s t)(g:TGo b t u):TGo (a++b) s u:=⟨g.ok,h.mono.trans g.mono,fun k hk=>by
 rcases g.keys k hk with hk|hk
 ·rcases h.keys k hk with hk|hk
  ·exact .inl hk
  ·exact .inr qil
 ·exact .inr qil⟩
def fresh(ns:List g9)(ts:TS):Prop:=ns.Nodup∧∀k∈ns,k∉ng ts.all
theorem TGo.set{ts:TS}(h:TOk ts){k:g9}(hk:k∉ng ts.all)(ty:Int)(lp:List (g9×Bool)):TGo [k] ts ⟨js ts.visible k ty,lp,js ts.all k ty⟩:=⟨h.set k ty lp,fun x u e=>by
 simp only;rw[qcz];split
 ·rename_i hx;subst hx;rw[qdp.2 hk]at e;cases e
 ·exact e,fun x hx=>by
 rcases(qde _ _ _ _).1 hx with h|h
 ·exact .inr co
 ·exact .inl h⟩
theorem fresh.left{a b:List g9}{ts:TS}(h:fresh (a++b) ts):fresh a ts:=⟨(qle.1 h.1).1,fun k hk=>h.2 k qil⟩
theorem fresh.right{a b:List g9}{ts ts':TS}(h:fresh (a++b) ts)(g:TGo a ts ts'):fresh b ts':=⟨(qle.1 h.1).2.1,fun k hk hm=>by
 rcases g.keys k hm with hm|hm
 ·exact h.2 k qil hm
 ·exact(qle.1 h.1).2.2 k hm k hk rfl⟩
theorem TGo.blk{ns:List g9}{l:List St}{f:TS→Int×TS}{ts:TS}(hf:(f ts).1=0→TGo ns ts (f ts).2)(h0:(m8 l f ts).1=0):TGo ns ts (m8 l f ts).2:=by
 unfold m8 at h0⊢;split at h0
 ·rename_i h;exact(h h0).elim
 ·rename_i h;rw[if_neg h];have g:=hf bh;exact⟨TOk.dels _ _ l (vis:=(f ts).2.visible) g.ok,g.mono,g.keys⟩
theorem xx5(t:St)(B E:TS→Int×TS)(ts:TS)(h:TOk ts)(hf:fresh (nmS t) ts)
  (hB:∀ts,TOk ts→fresh (ou t.body) ts→(B ts).1=0→TGo (ou t.body) ts (B ts).2)
  (hE:∀ts,TOk ts→fresh (ou t.els) ts→(E ts).1=0→TGo (ou t.els) ts (E ts).2)
  (h0:(qsx t B E ts).1=0):TGo (nmS t) ts (qsx t B E ts).2:=by
 rw[qw3]at hf⊢;unfold qsx at h0⊢;by_cases he:(ki ts.visible t).2.2≠0
 ·rw[if_pos he]at h0;exact(he h0).elim
 rw[if_neg he]at h0⊢;by_cases h1:t.op=1
 ·rw[if_pos h1]at h0⊢;rw[if_pos (.inl h1)]at hf⊢;exact(TGo.set h (hf.2 t.name ae) _ _).mono' (fun k hk=>by simp at hk;simp[hk])
 rw[if_neg h1]at h0⊢;by_cases h2:t.op=2
 ·rw[if_pos h2];rcases jg ts.visible t.name with _|ty
  ·exact .refl h _
  ·exact .refl h _
 rw[if_neg h2]at h0⊢;by_cases h3:t.op=3
 ·rw[if_pos h3];exact .refl h _
 rw[if_neg h3]at h0⊢;by_cases h4:t.op=4
 ·rw[if_pos h4];exact .refl h _
 rw[if_neg h4]at h0⊢;by_cases h7:t.op=7
 ·rw[if_pos h7];exact .refl h _
 rw[if_neg h7]at h0⊢;by_cases h5:t.op=5
 ·rw[if_pos h5]at h0⊢;by_cases h6:(ki ts.visible t).1≠3
  ·rw[if_pos h6]at h0;simp at h0
  rw[if_neg h6]at h0⊢;by_cases h8:(m8 t.body B ts).1≠0
  ·rw[if_pos h8]at h0;exact(h8 h0).elim
  rw[if_neg h8]at h0⊢;rw[if_neg aa,ej]at hf⊢;have g1:=TGo.blk (l:=t.body) (fun g=>hB ts h hf.left g) qj9;have g2:=TGo.blk (l:=t.els) (fun g=>hE _ g1.ok (hf.right g1) g) h0;exact g1.trans g2
 rw[if_neg h5]at h0⊢;by_cases h6:t.op=6
 ·rw[if_pos h6]at h0⊢;by_cases h8:(ki ts.visible t).1≠1∨(ki ts.visible t).2.1≠1
  ·rw[if_pos h8]at h0;simp at h0
  rw[if_neg h8]at h0⊢;rw[if_pos (.inr h6)]at hf⊢;have g0:=TGo.set h (hf.2 t.name ae) 1 (js ts.loops t.name true);have g1:=TGo.blk (l:=t.body) (fun g=>hB _ g0.ok (hf.right g0).left g) h0;have g2:=g0.trans g1;exact⟨g1.ok.del t.name,g2.mono,fun k hk=>by
   rcases g2.keys k hk with hk|hk
   ·exact .inl hk
   ·refine .inr ?_;simp only[dt]at hk⊢;rcases hk with hk|hk
    ·exact .inl hk
    ·exact .inr (.inl hk)⟩
 ·rw[if_neg h6];exact .refl h _
mutual
theorem xct:∀(t:St) (ts:TS),TOk ts→fresh (nmS t) ts→(um t ts).1=0→TGo (nmS t) ts (um t ts).2
 | .mk op name mx a b body els,ts,h,hf,h0=>by
  rw[qyd]at h0⊢;exact xx5 (.mk op name mx a b body els) _ _ ts h hf (fun ts=>qn4 body ts) (fun ts=>qn4 els ts) h0
theorem qn4:∀(l:List St) (ts:TS),TOk ts→fresh (ou l) ts→(km l ts).1=0→TGo (ou l) ts (km l ts).2
 | [],ts,h,hf,h0=>by rw[km];exact .refl h _
 |t::l,ts,h,hf,h0=>by
  rw[km]at h0⊢;rw[ou]at hf⊢;split at h0
  ·rename_i he;exact(he h0).elim
  rename_i he;rw[if_neg he];have g1:=xct t ts h hf.left qiu;exact g1.trans (qn4 l _ g1.ok (hf.right g1) h0)
end
def tyS(G:nf)(s:MS):Prop:=∀k v ty,jg s.vars k=some v→jg G k=some ty→v.k=ty
def nj(op:Int):Int:=if 10≤op∧op≤15 then 3 else(nh op).2
theorem xvw{r:Int×Int}{v:V}(h:sj r=.ok v):v.k=1:=by
 unfold sj at h;split at h
 ·cases h;rfl
 ·split at h<;>cases h
theorem xl2{s:g9}{v:V}(h:wq s=.ok v):v.k=2:=by
 unfold wq at h;split at h
 ·cases h
 ·cases h;rfl
section
variable {C:Cfg}
theorem jd3{op:Int}{l:List V}{s t:MS}{v:V}(qt:(l.length:Int)=me op)(h:ul C op l s=(.ok v,t)):v.k=nj op:=by
 have hy:∀{x:EV} {u:MS},(x,u)=((.ok v,t):EV×MS)→x=.ok v:=fun h=>congrArg Prod.fst h;unfold ul at h;split at h
 ·rename_i a;have jy:op=9∨op=18∨op=20∨op=21∨op=22∨op=23∨op=24:=by
   unfold me at qt;simp at qt;split at qt
   ·omega
   split at qt
   ·omega
   split at qt
   ·omega
   ·omega
  rcases jy with rfl|rfl|rfl|rfl|ho
  ·have e:rr C 9 a s=(if a.k=1 then sj (wj a.n)else .error (ab 1009),s):=rfl;rw[e]at h;have h:=hy h;split at h
   ·exact xvw h
   ·cases h
  ·have e:rr C 18 a s=(if a.k=3 then .ok (vB (decide (a.n=0)))else .error (ab 1009),s):=rfl;rw[e]at h;have h:=hy h;split at h
   ·cases h;rfl
   ·cases h
  ·have e:rr C 20 a s=(if a.k=1 then wq (C.fmt a.n)else .error (ab 1009),s):=rfl;rw[e]at h;have h:=hy h;split at h
   ·exact xl2 h
   ·cases h
  ·have e:rr C 21 a s=(if a.k=2 then .ok (vI a.s.size)else .error (ab 1009),s):=rfl;rw[e]at h;have h:=hy h;split at h
   ·cases h;rfl
   ·cases h
  ·unfold rr at h;rw[if_neg aa,if_neg aa,if_neg aa,if_neg aa]at h;by_cases hk:a.k≠2
   ·rw[if_pos hk]at h;cases h
   rw[if_neg hk]at h;rcases hx:r5 C a.s s with⟨z|w,m'⟩
   ·rw[hx]at h;cases h
   ·rw[hx]at h;have h:=hy h;rcases ho with rfl|rfl|rfl
    ·have e:wd 22 w=if w.k=0 then .ok (vI 0)else if w.k≠1 then .error (ab 1003)else .ok w:=by simp[wd]
     rw[e]at h;split at h
     ·cases h;rfl
     split at h
     ·cases h
     ·rename_i h2;have hv:w=v:=by injection h
      have:w.k=1:=aa;rw[←hv,this];rfl
    ·have e:wd 23 w=if w.k=0 then wq em else if w.k≠2 then .error (ab 1003)else .ok w:=by simp[wd]
     rw[e]at h;split at h
     ·exact xl2 h
     split at h
     ·cases h
     ·rename_i h2;have hv:w=v:=by injection h
      have:w.k=2:=aa;rw[←hv,this];rfl
    ·have e:wd 24 w=.ok (vB (!decide (w.k=0))):=by simp[wd]
     rw[e]at h;cases h;rfl
 ·rename_i a b;have g:=hy h;clear h hy;have jy:(4≤op∧op≤8)∨(10≤op∧op≤17)∨op=19:=by
   unfold me at qt;simp at qt;split at qt
   ·omega
   split at qt
   ·omega
   split at qt
   ·omega
   ·omega
  unfold s8 at g;by_cases ho:op=4∨op=5∨op=6∨op=7∨op=8
  ·rw[if_pos ho]at g;have:nj op=1:=by unfold nj nh;rw[if_neg aa,if_pos aa]
   rw[this];split at g
   ·unfold yc at g
    repeat' split at g
    all_goals exact xvw g
   ·cases g
  rw[if_neg ho]at g;by_cases h16:op=16
  ·rw[if_pos h16]at g;rw[h16];split at g
   ·cases g;rfl
   ·cases g
  rw[if_neg h16]at g;by_cases h17:op=17
  ·rw[if_pos h17]at g;rw[h17];split at g
   ·cases g;rfl
   ·cases g
  rw[if_neg h17]at g;by_cases h19:op=19
  ·rw[if_pos h19]at g;rw[h19];split at g
   ·exact xl2 g
   ·cases g
  rw[if_neg h19]at g;unfold qtr at g;split at g
  ·cases g;unfold nj;rw[if_pos aa];rfl
  ·cases g
 ·cases h
theorem jl6{G vis:nf}(r7:subV vis G){e:Ex}{d:Nat}{ty:Int}(hc:mg e d=0)(hof:ofE vis e=(ty,0)){s t:MS}{v:V}(hT:tyS G s)(h:kx C e s=(.ok v,t)):v.k=ty∧1≤ty∧ty≤3:=by
 have qt:=qez hc;rw[que]at hof;rw[xri]at h;have hk:∀(op:Int),1≤(nh op).2∧(nh op).2≤3:=fun op=>by
  unfold nh
  repeat' split
  all_goals decide
 by_cases h3:e.op=3
 ·rw[if_pos h3]at hof;rw[if_neg aa,if_neg aa,if_pos h3]at h;have h:=congrArg Prod.fst h;simp only at h;split at h
  ·rename_i w hw;cases h;unfold wn at hof;split at hof
   ·cases hof
   ·rename_i u hu;split at hof
    ·cases hof
    ·cases hof;exact⟨hT _ _ _ hw (r7 _ _ hu),aa,aa⟩
  ·cases h
 ·rw[if_neg h3]at hof;split at hof
  ·rename_i he;have:=congrArg Prod.snd hof;simp only at this;exact(he this).elim
  have hty:ty=nj e.op:=by
   unfold nj;split at hof
   ·rename_i ho;split at hof
    ·cases hof
    ·cases hof;rw[if_pos ho]
   ·rename_i ho;rw[if_neg ho];split at hof
    ·cases hof;rfl
    ·cases hof
  have hr:1≤ty∧ty≤3:=by
   rw[hty];unfold nj;split
   ·omega
   ·exact hk _
  refine⟨?_,hr⟩;rw[hty];split at h
  ·rename_i h1;cases h;unfold nj nh;rw[if_neg aa,if_pos (.inl h1)];rfl
  split at h
  ·rename_i h1;cases h;unfold nj nh;rw[if_neg aa,if_neg aa,if_pos (.inl h1)];rfl
  split at h
  ·cases h
  ·rename_i l m' hL;exact jd3 qjw h
end
section
def xz(body:RM→RM)(name:g9)(b:Int):Nat→Int→RM→RM
 | 0,_,m=>m
 |f+1,i,m=>if i<b∧m.st=0 then(if (qu m).st=0 then xz body name b f (jt (i+1)) (body { qu m with vars:=py (qu m).vars ⟨name,vI i⟩ })else xz body name b f (jt (i+1)) (qu m))else m
section
variable (C:Cfg)
mutual
def stR:St→RM→RM
 | .mk op name mx a b body els,m =>
  if op=8 then m.ab mx
  else if (jj C a m).2.st≠0 then(jj C a m).2
  else if op=1∨op=2 then { (jj C a m).2 with vars:=py (jj C a m).2.vars ⟨name,(jj C a m).1⟩ }
  else if op=4 then qm7 C (jj C a m).2 (jj C a m).1.s V.nil
  else if op=7 then qqp (jj C a m).2 (jj C a m).1
  else if op=5 then(if (jj C a m).1.n=1 then om body (jj C a m).2 else om els (jj C a m).2)
  else if (jj C b (jj C a m).2).2.st≠0 then(jj C b (jj C a m).2).2
  else if op=3 then qm7 C (jj C b (jj C a m).2).2 (jj C a m).1.s (jj C b (jj C a m).2).1
  else if (jj C a m).1.n<(jj C b (jj C a m).2).1.n∧((t0 (jj C b (jj C a m).2).1.n (jj C a m).1.n).2≠0∨mx<(t0 (jj C b (jj C a m).2).1.n (jj C a m).1.n).1)then(jj C b (jj C a m).2).2.ab 1005
  else xz (fun m=>om body m) name (jj C b (jj C a m).2).1.n ((jj C b (jj C a m).2).1.n - (jj C a m).1.n).toNat (jj C a m).1.n (jj C b (jj C a m).2).2
def om:List St→RM→RM
 | [],m=>m
 |t::l,m=>if m.st≠0 then m else if (qu m).st=0 then om l (stR t (qu m))else om l (qu m)
end
end
theorem xa6(C:Cfg):∀(l:List St) {m:RM},m.st≠0→om C l m=m
 | [],m,h=>by rw[om]
 |t::l,m,h=>by rw[om,if_pos h]
theorem xbv{body:RM→RM}{name:g9}{b:Int}:∀(f:Nat) (i:Int) {m:RM},m.st≠0→xz body name b f i m=m
 | 0,i,m,h=>by rw[xz]
 |f+1,i,m,h=>by rw[xz,if_neg (fun g=>h g.2)]
theorem xli{body:MS→Except Stop Unit×MS}{name:g9}{b:Int}:∀(f:Nat) {i:Int} {s:MS},¬i<b→o8 body name b f i s=(.ok (),s)
 | 0,i,s,h=>by rw[o8]
 |f+1,i,s,h=>by rw[o8,if_neg h]
theorem xdm{body:RM→RM}{name:g9}{b:Int}:∀(f:Nat) {i:Int} {m:RM},¬i<b→xz body name b f i m=m
 | 0,i,m,h=>by rw[xz]
 |f+1,i,m,h=>by rw[xz,if_neg (fun g=>h g.1)]
structure Pre(G:nf)(r p:Nat)(s:MS)(m:RM):Prop where
 inv:Inv r p s
 vm:vM s
 ty:tyS G s
 sim:Sim s m
def qvd(G:nf)(x:Except Stop Unit×MS)(m:RM):Prop:=match x.1 with
 | .ok _=>Pre G 0 0 x.2 m
 | .error z=>Dead z x.2 m
theorem xq2{G:nf}{s:MS}{k:g9}{v:V}(h:tyS G s)(hk:∀ty,jg G k=some ty→v.k=ty):tyS G { s with vars:=js s.vars k v }:=fun x w ty hx hg=>by
 simp only at hx;rw[qcz]at hx;split at hx
 ·rename_i e;subst e;cases hx;exact hk ty hg
 ·exact h x w ty hx hg
theorem Sim.set{s:MS}{m:RM}(h:Sim s m)(k:g9)(v:V):Sim { s with vars:=js s.vars k v } { m with vars:=py m.vars ⟨k,v⟩ }:=⟨fun x=>by
 simp only;rw[qcz,(xc0 _ _ _).1,(xc0 _ _ _).2];by_cases hx:k=x
 ·simp[hx]
 ·simp[hx,h.vars x],h.own,h.keys,h.out,h.reads,h.puts,h.steps,h.st,h.code,h.miss⟩
section
variable {C:Cfg} (hV:vC C) (hC:ur C)
include hV hC
theorem xqs{G vis:nf}{e:Ex}{r p:Nat}{s:MS}{m:RM}(hg:goX e)(hc:mg e 1=0)(h:Pre G (r+4095) p s m) :
  (∀z s',kx C e s=(.error z,s')→Dead z s' (jj C e m).2) ∧
  (∀v s',kx C e s=(.ok v,s')→(jj C e m).1=v∧Pre G r p s' (jj C e m).2∧oz v∧kp v∧∀ty,subV vis G→ofE vis e=(ty,0)→v.k=ty∧1≤ty∧ty≤3):=by
 have hS:=xxe hV hC e 1 s m hc hg.1 h.vm h.inv.rng h.inv.ar h.sim;have hI:=h.inv.eval hC (r:=r) hg;have hE:=qpl hC e s hg.1 h.inv.rng h.inv.ar;refine⟨fun z s' hx=>?_,fun v s' hx=>?_⟩
 ·rw[hx]at hS;exact(show _∧Dead z s' (jj C e m).2 from hS).2
 ·have hk:=xdb hV hC e 1 s s' v hc hg.1 h.vm h.inv.rng h.inv.ar hx;have ht:=fun ty (r7:subV vis G) (ho:ofE vis e=(ty,0))=>jl6 (C:=C) r7 hc ho h.ty hx;rw[hx]at hS hI hE;have hS:(jj C e m).1=v∧Sim s' (jj C e m).2:=hS;refine⟨hS.1,⟨hI.1,qre hE.1 h.vm,?_,hS.2⟩,hk,hI.2 v rfl,ht⟩;have:s'.vars=s.vars:=by have:=hE.1.eq;simp only at this;rw[this]
  intro k w ty hw hg;rw[this]at hw;exact h.ty k w ty hw hg
omit hV hC in
theorem xou{G:nf}{s:MS}{m:RM}(h:Pre G 0 0 s m):(∀z s',qq s=(.error z,s')→(qu m).st≠0∧Dead z s' (qu m))∧(∀u s',qq s=(.ok u,s')→(qu m).st=0∧Pre G 8192 1 s' (qu m)):=by
 have hS:=jng h.sim h.inv.st;refine⟨fun z s' hx=>?_,fun u s' hx=>?_⟩
 ·rw[hx]at hS;have hS:Dead z s' (qu m):=hS;exact⟨qkg,hS⟩
 ·have hi:=h.inv.tick hx;have hv:s'.vars=s.vars∧s'.own=s.own:=by
   unfold qq at hx;have:=congrArg Prod.snd hx;simp only at this;subst this;exact⟨rfl,rfl⟩
  rw[hx]at hS;have hS:Sim s' (qu m):=hS;refine⟨hS.st,hi,⟨by rw[hv.1];exact h.vm.1,by rw[hv.2];exact h.vm.2⟩,fun k w ty hw hg=>h.ty k w ty (by rw[←hv.1];exact hw) hg,hS⟩
omit hV hC in
theorem xt7{G:nf}{body:MS→Except Stop Unit×MS}{bodyR:RM→RM}{name:g9}{b:Int}(hb64:i64 b)(hG:∀ty,jg G name=some ty→ty=1)
  (hb:∀s m,Pre G 8192 1 s m→qvd G (body s) (bodyR m)):∀(f g:Nat) (i:Int) (s:MS) (m:RM),i64 i→b - i≤f→b - i≤g→Pre G 0 0 s m→qvd G (o8 body name b f i s) (xz bodyR name b g i m)
 | 0,g,i,s,m,hi,h1,h2,h=>by
  rw[xli 0 aa,xdm g aa];exact h
 |f+1,0,i,s,m,hi,h1,h2,h=>by
  rw[xli _ aa,xdm 0 aa];exact h
 |f+1,g+1,i,s,m,hi,h1,h2,h=>by
  by_cases ib:i<b
  ·obtain⟨t1,t2⟩:=xou h;rw[o8,if_pos ib,xz,if_pos ⟨ib,h.sim.st⟩];have hw:jt (i+1)=i+1:=qrx qhn qi9;rcases hx:qq s with⟨z|u,s'⟩
   ·obtain⟨e1,e2⟩:=t1 _ _ hx;simp only;rw[if_neg e1,xbv _ _ e1];exact e2
   ·obtain⟨e1,e2⟩:=t2 _ _ hx;simp only;rw[if_pos e1];have hp:Pre G 8192 1 { s' with vars:=js s'.vars name (vI i) } { qu m with vars:=py (qu m).vars ⟨name,vI i⟩ }:=⟨e2.inv.vars (qqb hi) name,⟨fun q hq=>by
     rcases qxl hq with rfl|hq
     ·exact qzn i
     ·exact e2.vm.1 q hq,e2.vm.2⟩,xq2 e2.ty (fun ty hg=>(hG ty hg).symm),e2.sim.set name (vI i)⟩
    have hB:=hb _ _ hp;rcases hy:body { s' with vars:=js s'.vars name (vI i) }with⟨z|u',s''⟩
    ·rw[hy]at hB;have hB:Dead z s'' _:=hB;simp only;rw[xbv _ _ (by rw[hB.st];exact hB.ne)];exact hB
    ·rw[hy]at hB;have hB:Pre G 0 0 s'' _:=hB;simp only;rw[hw];exact xt7 hb64 hG hb f g (i+1) s'' _ ⟨qhn,qi9⟩ aa aa hB
  ·rw[xli _ ib,xdm _ ib];exact h
end
theorem jc6{a b:Int}(ha:i64 a)(hb:i64 b)(h:a<b):((t0 b a).2≠0∨(∀mx,mx<(t0 b a).1↔mx<b - a))∧((t0 b a).2≠0→9223372036854775807<b - a):=by
 obtain⟨a1,a2⟩:=ha;obtain⟨b1,b2⟩:=hb;have e:jt (b - a)=if b - a≤9223372036854775807 then b - a else b - a - 18446744073709551616:=by
  unfold jt;simp only[IntKind.wrap,IntKind.bits,IntKind.signed,fh,decide_eq_true_eq,show(2:Int) ^ (64 - 1)=9223372036854775808 by decide,show(2:Int) ^ 64=18446744073709551616 by decide];split<;>split<;>omega
 unfold t0;rw[e];by_cases h1:b - a≤9223372036854775807
 ·rw[if_pos h1,if_neg aa];refine⟨.inr fun mx=>by simp,fun h=>by simp at h⟩
 ·rw[if_neg h1,if_pos aa];exact⟨.inl ae,fun _=>by omega⟩
theorem jjw{a b mx:Int}(ha:i64 a)(hb:i64 b)(h1:1≤mx)(h2:mx≤16):qtd a b mx↔(a<b∧((t0 b a).2≠0∨mx<(t0 b a).1)):=by
 unfold qtd;refine and_congr_right fun h=>?_;have hn:=jc6 ha hb h;have key:IntKind.u64.wrap mx<IntKind.u64.wrap (IntKind.u64.wrap b - IntKind.u64.wrap a)↔mx<b - a:=by
  obtain⟨a1,a2⟩:=ha;obtain⟨b1,b2⟩:=hb;simp only[IntKind.wrap,IntKind.bits,IntKind.signed];simp;omega
 rw[key];rcases hn.1 with h3|h3
 ·have:=hn.2 h3;exact⟨fun _=>.inl h3,fun _=>by omega⟩
 ·rw[←h3];exact⟨.inr,fun g=>g.elim (fun g=>(h3 mx).2 (by have:=hn.2 g;omega)) id⟩
end
end Go.Cw
