/- Part 30 of a proof. -/
import Derived.Lib.ItoaLen
import Derived.Test.YtbimdamecieomaaGreatDoorR29
set_option linter.all false
namespace Go.Cw
open Go Go.Abs
def qwr(op a b:Int):Int :=
 if a≠b then 0 else if 4≤op∧op≤8∧a=1 then 1
 else if op=10∨op=11∨(12≤op∧op≤15∧a≠3)∨((op=16∨op=17)∧a=3)then 3
 else if op=19∧a=2 then 2 else 0
theorem jok{o:Option Int}(h:(wn o).2=0):1≤(wn o).1∧(wn o).1≤3:=by
 unfold wn at h⊢;split
 ·simp at h
 ·rename_i ty;simp only at h⊢;split
  ·rename_i h1;rw[if_pos h1]at h;simp at h
  ·simp only;omega
theorem jfn(op:Int):1≤(nh op).2∧(nh op).2≤3:=by
 unfold nh
 repeat' split
 all_goals decide
theorem xjl(vars:nf)(e:Ex)(h:(ofE vars e).2=0):1≤(ofE vars e).1∧(ofE vars e).1≤3:=by
 rw[que]at h⊢;by_cases h3:e.op=3
 ·rw[if_pos h3]at h⊢;exact jok h
 rw[if_neg h3]at h⊢;by_cases h0:(uc vars e.args).1≠0
 ·rw[if_pos h0]at h;exact(h0 h).elim
 rw[if_neg h0]at h⊢;by_cases h1:10≤e.op∧e.op≤15
 ·rw[if_pos h1]at h⊢;split
  ·rename_i h2;rw[if_pos h2]at h;simp at h
  ·simp
 rw[if_neg h1]at h⊢;split
 ·exact jfn _
 ·rename_i h2;rw[if_neg h2]at h;simp at h
theorem xyv(vars:nf){e:Ex}(h:me e.op=0)(ha:e.args=[]):ofE vars e=if e.op=3 then wn (jg vars e.s)else if e.op=2 then(2,0)else(1,0):=by
 rw[que,ha,uc];unfold me at h;by_cases h3:e.op=3
 ·rw[if_pos h3,if_pos h3]
 have jy:e.op≤3∨25≤e.op:=by
  split at h
  ·omega
  split at h
  ·assumption
  split at h<;>omega
 rw[if_neg h3,if_neg h3,if_neg ae,if_neg aa];simp only[ql7,if_true];by_cases h2:e.op=2
 ·rw[if_pos h2,h2];rfl
 rw[if_neg h2];have hlo:1≤e.op∧e.op≤27:=by
  split at h
  ·omega
  ·omega
 have:nh e.op=(1,1):=by
  unfold nh;rw[if_pos aa]
 rw[this]
theorem xo5(vars:nf){e a:Ex}(h:me e.op=1)(ha:e.args=[a]):ofE vars e=if (ofE vars a).2≠0 then(0,(ofE vars a).2)else if (ofE vars a).1≠(nh e.op).1 then(0,10)else((nh e.op).2,0):=by
 have jy:e.op=9∨e.op=18∨(20≤e.op∧e.op≤24):=by
  unfold me at h;split at h
  ·omega
  split at h
  ·omega
  split at h<;>omega
 rw[que,ha,if_neg aa,uc,uc];by_cases h2:(ofE vars a).2≠0
 ·rw[if_pos h2,if_pos h2];simp only;rw[if_pos h2]
 ·rw[if_neg h2,if_neg h2];simp only[ne_eq,not_true_eq_false,if_false,qll,ql7,fl,decide_eq_true_eq];rw[if_neg aa];by_cases h4:(ofE vars a).1=(nh e.op).1
  ·rw[if_pos h4,if_neg qiw]
  ·rw[if_neg h4,if_pos h4]
theorem xnn(vars:nf){e a b:Ex}(h:me e.op=2)(ha:e.args=[a,b]):ofE vars e=if (ofE vars a).2≠0 then(0,(ofE vars a).2)else if (ofE vars b).2≠0 then(0,(ofE vars b).2)else if qwr e.op (ofE vars a).1 (ofE vars b).1=0 then(0,10)else(qwr e.op (ofE vars a).1 (ofE vars b).1,0):=by
 have jy:(4≤e.op∧e.op≤8)∨(10≤e.op∧e.op≤17)∨e.op=19:=by
  unfold me at h;split at h
  ·omega
  split at h
  ·omega
  split at h<;>omega
 rw[que,ha,if_neg aa,uc,uc,uc];by_cases h2:(ofE vars a).2≠0
 ·rw[if_pos h2,if_pos h2];simp only;rw[if_pos h2]
 rw[if_neg h2,if_neg h2];by_cases h3:(ofE vars b).2≠0
 ·rw[if_pos h3,if_pos h3];simp only;rw[if_pos h3]
 rw[if_neg h3,if_neg h3];have ra:=xjl vars a ca;have rb:=xjl vars b qgq;obtain⟨x,hx⟩:∃x,(ofE vars a).1=x:=⟨_,rfl⟩
 obtain⟨y,hy⟩:∃y,(ofE vars b).1=y:=⟨_,rfl⟩
 rw[hx]at ra⊢;rw[hy]at rb⊢;obtain⟨op,ho⟩:∃op,e.op=op:=⟨_,rfl⟩
 rw[ho]at jy⊢;simp only[ne_eq,not_true_eq_false,if_false,List.getD_cons_zero,List.getD_cons_succ,qll,ql7,fl,c0,decide_eq_true_eq];have ex:x=1∨x=2∨x=3:=aa;have ey:y=1∨y=2∨y=3:=aa;have eo:op=4∨op=5∨op=6∨op=7∨op=8∨op=10∨op=11∨op=12∨op=13∨op=14∨op=15∨op=16∨op=17∨op=19:=aa;clear hx hy ho jy ra rb ha h h2 h3;rcases ex with rfl|rfl|rfl<;>rcases ey with rfl|rfl|rfl<;>rcases eo with rfl|rfl|rfl|rfl|rfl|rfl|rfl|rfl|rfl|rfl|rfl|rfl|rfl|rfl<;>decide
def pl(op a b:Int):Bool :=
 if op=3 then !decide (a=2)||decide (b=3)else if op=4 then !decide (a=2)else if op=5 then !decide (a=3)else if op=6 then !decide (a=1)||!decide (b=1)else if op=7 then decide (a=3)else false
def qs0(vars:nf)(loops:List g9)(name:g9)(t:Int):Int :=
 if (wn (jg vars name)).2≠0 then(wn (jg vars name)).2 else if jk loops name=true then 7 else if t≠(wn (jg vars name)).1 then 10 else 0
mutual
def ut:St→nf→List g9→Int
 | .mk op name mx a b body els,vars,loops =>
  let t:St:=.mk op name mx a b body els
  let o:=ki vars t
  let e1:=if o.2.2=0∧op=2 then qs0 vars loops name o.1 else o.2.2
  let e2:=if e1=0∧pl op o.1 o.2.1=true then 10 else e1
  let e3:=if e2=0∧op=5 then(if rn body vars loops=0 then rn els vars loops else rn body vars loops)else e2
  if e3=0∧op=6 then rn body (vars++[(name,1)]) (loops++[name])else e3
def rn:List St→nf→List g9→Int
 | [],_,_=>0
 |t::l,vars,loops=>if ut t vars loops≠0 then ut t vars loops else rn l (if t.op=1 then vars++[(t.name,(ki vars t).1)]else vars) loops
end
theorem qsb(t:St)(vars:nf)(loops:List g9):ut t vars loops =
  (let o:=ki vars t
  let e1:=if o.2.2=0∧t.op=2 then qs0 vars loops t.name o.1 else o.2.2
  let e2:=if e1=0∧pl t.op o.1 o.2.1=true then 10 else e1
  let e3:=if e2=0∧t.op=5 then(if rn t.body vars loops=0 then rn t.els vars loops else rn t.body vars loops)else e2
  if e3=0∧t.op=6 then rn t.body (vars++[(t.name,1)]) (loops++[t.name])else e3):=by
 cases t;rw[ut];rfl
theorem xld{α:Type}:∀(l:List (g9×α)) (k n:g9) (v:α),jg (l++[(n,v)]) k=match jg l k with|some x=>some x|none=>if n=k then some v else none
 | [],k,n,v=>by simp[jg]
 |p::l,k,n,v=>by
  simp only[qlg,jg];split
  ·rfl
  ·exact xld l k n v
theorem jkp{a b:nf}(hk:∀k,jg a k=jg b k)(l:List Ex)(h:∀x∈l,ofE a x=ofE b x):uc a l=uc b l:=by
 induction l with
 |nil=>rfl
 |cons e l ih =>
  rw[uc,uc,h e ae,ih (fun x hx=>h x bt)]
theorem xkt{a b:nf}(hk:∀k,jg a k=jg b k)(e:Ex):ofE a e=ofE b e:=by
 rw[que,que,hk,jkp hk e.args fun x hx=>by
  have:=Ex.arg_lt hx;exact xkt hk x]
termination_by SizeOf.sizeOf e
theorem xgv{a b:nf}(hk:∀k,jg a k=jg b k)(t:St):ki a t=ki b t:=by
 unfold ki;rw[xkt hk,xkt hk]
structure TR(ts:TS)(vars:nf)(loops:List g9):Prop where
 vis:∀k,jg ts.visible k=jg vars k
 lp:∀k,k∈ng vars→(jg ts.loops k=some true↔k∈loops)
 lin:∀k∈loops,k∈ng ts.all
 lk:∀k v,jg ts.loops k=some v→k∈ng ts.all
 ty:∀k v,jg vars k=some v→1≤v∧v≤3
theorem TR.keys{ts:TS}{vars:nf}{loops:List g9}(h:TR ts vars loops)(hT:TOk ts){k:g9}(hk:k∉ng ts.all):k∉ng vars:=fun hm=>by
 rcases hx:jg vars k with _|v
 ·exact qdp.1 hx hm
 ·rw[←h.vis]at hx;have:=hT.sub _ _ hx;rw[qdp.2 hk]at this;cases this
theorem xkv{α:Type}(l:List (g9×α))(k:g9)(v:α)(x:g9):x∈ng (l++[(k,v)])↔x∈ng l∨x=k:=by
 simp[ng]
theorem TR.decl{ts:TS}{vars:nf}{loops:List g9}(h:TR ts vars loops)(hT:TOk ts){k:g9}(hk:k∉ng ts.all){ty:Int}(h1:1≤ty)(h2:ty≤3):TR (ts.decl k ty) (vars++[(k,ty)]) loops:=by
 have hv:=h.keys hT hk;refine⟨fun x=>?_,fun x hx=>?_,fun x hx=>(qde _ _ _ _).2 (.inr (h.lin x hx)),fun x v hx=>(qde _ _ _ _).2 (.inr (h.lk x v hx)),fun x v hx=>?_⟩
 ·simp only[TS.decl];rw[qcz,xld,h.vis];by_cases e:k=x
  ·subst e;rw[if_pos rfl,qdp.2 hv,if_pos rfl]
  ·rw[if_neg e];rcases jg vars x with _|v<;>simp[e]
 ·rcases(xkv _ _ _ _).1 hx with hx|rfl
  ·exact h.lp x hx
  ·simp only[TS.decl];constructor
   ·intro hl;exact(hk (h.lk _ _ hl)).elim
   ·intro hl;exact(hk (h.lin _ hl)).elim
 ·rw[xld]at hx;rcases hg:jg vars x with _|w
  ·rw[hg]at hx;simp only at hx;split at hx
   ·cases hx;exact⟨h1,h2⟩
   ·cases hx
  ·rw[hg]at hx;cases hx;exact h.ty x _ hg
theorem TR.loop{ts:TS}{vars:nf}{loops:List g9}(h:TR ts vars loops)(hT:TOk ts){k:g9}(hk:k∉ng ts.all):TR ⟨js ts.visible k 1,js ts.loops k true,js ts.all k 1⟩ (vars++[(k,1)]) (loops++[k]):=by
 have hd:=h.decl hT hk (ty:=1) bc bc;refine⟨hd.vis,fun x hx=>?_,fun x hx=>?_,fun x v hx=>?_,hd.ty⟩
 ·simp only;rw[qcz];by_cases e:k=x
  ·subst e;simp
  ·rw[if_neg e,dt,ei];rcases(xkv _ _ _ _).1 hx with hx|rfl
   ·rw[h.lp x hx];exact⟨.inl,fun g=>g.elim id fun g=>(e g.symm).elim⟩
   ·exact(e rfl).elim
 ·rw[dt,ei]at hx;rcases hx with hx|rfl
  ·exact(qde _ _ _ _).2 (.inr (h.lin x hx))
  ·exact(qde _ _ _ _).2 (.inl rfl)
 ·simp only at hx;rw[qcz]at hx;split at hx
  ·rename_i e;exact(qde _ _ _ _).2 (.inl e.symm)
  ·exact(qde _ _ _ _).2 (.inr (h.lk x v hx))
def qqk:List St→List g9
 | []=>[]
 |t::l=>if t.op=1 then t.name::qqk l else qqk l
theorem xi1:∀(l:List St) (k:g9),k∈qqk l→k∈ou l
 | [],k,h=>by cases h
 |t::l,k,h=>by
  rw[ou,qw3];rw[qqk]at h;split at h
  ·rename_i h1;rw[if_pos (.inl h1)];rcases cw.1 h with rfl|h
   ·simp
   ·have:=xi1 l k h;simp[this]
  ·have:=xi1 l k h;simp[this]
theorem xim{α:Type}:∀(l:List (g9×α)) (n k:g9),(ng l).Nodup→jg (qp3 l n) k=if n=k then none else jg l k
 | [],n,k,_=>by simp[qp3,jg]
 |p::l,n,k,h=>by
  have h':p.1∉ng l∧(ng l).Nodup:=gg.1 h;rw[qp3];by_cases e:p.1=n
  ·rw[if_pos e];by_cases e2:n=k
   ·rw[if_pos e2,qdp,←e2,←e];exact h'.1
   ·rw[if_neg e2,jg,if_neg (by rw[e];exact e2)]
  ·rw[if_neg e,jg,jg,xim l n k h'.2];by_cases e2:n=k
   ·rw[if_pos e2,if_neg (by rw[←e2];exact e),if_pos e2]
   ·rw[if_neg e2,if_neg e2]
theorem xky:∀(l:List St) (vis:nf) (k:g9),(ng vis).Nodup→jg (qrp l vis) k=if jk (qqk l) k=true then none else jg vis k
 | [],vis,k,_=>by simp[qrp,qqk,jk,mv]
 |t::l,vis,k,h=>by
  rw[qrp,qqk];split
  ·rename_i h1;rw[xky l _ k (h.sublist ((xdr _ _).map _)),xim _ _ _ h];have hc:jk (t.name::qqk l) k=(decide (t.name=k)||jk (qqk l) k):=rfl;rw[hc];by_cases e:jk (qqk l) k=true
   ·simp[e]
   ·by_cases e2:t.name=k
    ·simp[e2]
    ·simp[e,e2]
  ·exact xky l vis k h
structure SV(ns ls:List g9)(ts ts':TS):Prop where
 vis:∀k,k∉ls→jg ts'.visible k=jg ts.visible k
 lp:∀k,k∉ns→jg ts'.loops k=jg ts.loops k
 lk:(∀k v,jg ts.loops k=some v→k∈ng ts.all)→∀k v,jg ts'.loops k=some v→k∈ng ts'.all
theorem SV.refl(ns ls:List g9)(ts:TS):SV ns ls ts ts:=⟨fun _ _=>rfl,fun _ _=>rfl,id⟩
theorem SV.blk{l:List St}{f:TS→Int×TS}{ts:TS}(hT:TOk ts)(hf:fresh (ou l) ts)(hg:TGo (ou l) ts (f ts).2)(hs:SV (ou l) (qqk l) ts (f ts).2)(h0:(f ts).1=0):SV (ou l) [] ts (m8 l f ts).2:=by
 unfold m8;rw[if_neg cg];refine⟨fun k _=>?_,hs.lp,hs.lk⟩;simp only;rw[xky _ _ _ hg.ok.nod];by_cases e:jk (qqk l) k=true
 ·rw[if_pos e];have hn:=hf.2 k (xi1 l k (ux.1 e));rcases hx:jg ts.visible k with _|v
  ·rfl
  ·have:=hT.sub _ _ hx;rw[qdp.2 hn]at this;cases this
 ·rw[if_neg e];exact hs.vis k (fun g=>e (ux.2 g))
theorem xa4{l:List St}{f:TS→Int×TS}{ts:TS}(h:(m8 l f ts).1=0):(f ts).1=0:=by
 unfold m8 at h;by_cases hb:(f ts).1≠0
 ·rw[if_pos hb]at h;exact(hb h).elim
 ·simpa using hb
theorem xwu(l:List St)(f:TS→Int×TS)(ts:TS):(m8 l f ts).1=(f ts).1:=by
 unfold m8;split
 ·rfl
 ·rename_i hn;simp only;omega
mutual
theorem xtq:∀(t:St) (ts:TS),TOk ts→fresh (nmS t) ts→(um t ts).1=0→SV (nmS t) (if t.op=1 then [t.name]else []) ts (um t ts).2
 | .mk op name mx a b body els,ts,hT,hf,h0=>by
  obtain⟨t,ht⟩:∃t:St,t=.mk op name mx a b body els:=⟨_,rfl⟩
  have s6:t.body=body:=qit;have qns:t.els=els:=qit;rw[←ht]at h0 hf⊢;rw[qw3]at hf⊢;rw[qyd]at h0⊢;unfold qsx at h0⊢;by_cases he:(ki ts.visible t).2.2≠0
  ·rw[if_pos he]at h0;exact(he h0).elim
  rw[if_neg he]at h0⊢;by_cases h1:t.op=1
  ·rw[if_pos h1]at h0⊢;rw[if_pos h1];refine⟨fun k hk=>?_,fun k hk=>rfl,fun g k v hv=>(qde _ _ _ _).2 (.inr (g k v hv))⟩;simp only[TS.decl];rw[qcz,if_neg (fun e=>hk (by simp[e]))]
  rw[if_neg h1]at h0⊢;rw[if_neg h1];by_cases h2:t.op=2
  ·rw[if_pos h2];rcases jg ts.visible t.name with _|ty
   ·exact .refl _ _ _
   ·exact .refl _ _ _
  rw[if_neg h2]at h0⊢;by_cases h3:t.op=3
  ·rw[if_pos h3];exact .refl _ _ _
  rw[if_neg h3]at h0⊢;by_cases h4:t.op=4
  ·rw[if_pos h4];exact .refl _ _ _
  rw[if_neg h4]at h0⊢;by_cases h7:t.op=7
  ·rw[if_pos h7];exact .refl _ _ _
  rw[if_neg h7]at h0⊢;by_cases h5:t.op=5
  ·rw[if_pos h5]at h0⊢;by_cases h6:(ki ts.visible t).1≠3
   ·rw[if_pos h6]at h0;simp at h0
   rw[if_neg h6]at h0⊢;by_cases h8:(m8 t.body (km t.body) ts).1≠0
   ·rw[if_pos h8]at h0;exact(h8 h0).elim
   rw[if_neg h8]at h0⊢;rw[if_neg aa,ej]at hf⊢;have z1:=xa4 qj9;have z2:=xa4 h0;have g1:=TGo.blk (l:=t.body) (f:=km t.body) (fun g=>qn4 t.body ts hT hf.left g) qj9;have hf2:=hf.right g1;have s1:=SV.blk hT hf.left (qn4 t.body ts hT hf.left z1) (by rw[s6]at hf z1⊢;exact xck body ts hT hf.left z1) z1;have s2:=SV.blk g1.ok hf2 (qn4 t.els _ g1.ok hf2 z2) (by rw[qns]at hf2 z2⊢;exact xck els _ g1.ok hf2 z2) z2;refine⟨fun k hk=>(s2.vis k hk).trans (s1.vis k hk),fun k hk=>?_,fun g=>s2.lk (s1.lk g)⟩;simp only[dt,not_or]at hk;exact(s2.lp k hk.2).trans (s1.lp k hk.1)
  rw[if_neg h5]at h0⊢;by_cases h6:t.op=6
  ·rw[if_pos h6]at h0⊢;by_cases h8:(ki ts.visible t).1≠1∨(ki ts.visible t).2.1≠1
   ·rw[if_pos h8]at h0;simp at h0
   rw[if_neg h8]at h0⊢;rw[if_pos (.inr h6)]at hf⊢;have g0:=TGo.set hT (hf.2 t.name ae) 1 (js ts.loops t.name true);have hfb:=(hf.right g0).left;have z1:=xa4 h0;have g1:=qn4 t.body _ g0.ok hfb z1;have s1:=SV.blk g0.ok hfb g1 (by rw[s6]at hfb z1⊢;exact xck body _ g0.ok hfb z1) z1;have wb:=TGo.blk (l:=t.body) (f:=km t.body) (fun g=>qn4 t.body _ g0.ok hfb g) h0;refine⟨fun k _=>?_,fun k hk=>?_,fun g=>?_⟩
   ·simp only;rw[xim _ _ _ wb.ok.nod];by_cases e:t.name=k
    ·rw[if_pos e];have hn:=hf.2 t.name ae;rcases hx:jg ts.visible k with _|v
     ·rfl
     ·have:=hT.sub _ _ hx;rw[←e,qdp.2 hn]at this;cases this
    ·rw[if_neg e,s1.vis k ae];simp only;rw[qcz,if_neg e]
   ·simp only[dt,ei,not_or]at hk;simp only;rw[s1.lp k hk.2.1];simp only;rw[qcz,if_neg (fun e=>hk.1 e.symm)]
   ·simp only;refine s1.lk fun k v hv=>?_;simp only at hv⊢;rw[qcz]at hv;split at hv
    ·rename_i e;exact(qde _ _ _ _).2 (.inl e.symm)
    ·exact(qde _ _ _ _).2 (.inr (g k v hv))
  ·rw[if_neg h6];exact .refl _ _ _
theorem xck:∀(l:List St) (ts:TS),TOk ts→fresh (ou l) ts→(km l ts).1=0→SV (ou l) (qqk l) ts (km l ts).2
 | [],ts,hT,hf,h0=>by rw[km];exact .refl _ _ _
 |t::l,ts,hT,hf,h0=>by
  rw[km]at h0⊢;rw[ou]at hf⊢;by_cases he:(um t ts).1≠0
  ·rw[if_pos he]at h0;exact(he h0).elim
  rw[if_neg he]at h0⊢;have he:(um t ts).1=0:=qiu;have s1:=xtq t ts hT hf.left he;have g1:=xct t ts hT hf.left he;have s2:=xck l _ g1.ok (hf.right g1) h0;refine⟨fun k hk=>?_,fun k hk=>?_,fun g=>s2.lk (s1.lk g)⟩
  ·rw[qqk]at hk;by_cases h1:t.op=1
   ·rw[if_pos h1]at hk s1;simp only[cw,not_or]at hk;exact(s2.vis k hk.2).trans (s1.vis k (by simpa using hk.1))
   ·rw[if_neg h1]at hk s1;exact(s2.vis k hk).trans (s1.vis k ae)
  ·simp only[dt,not_or]at hk;exact(s2.lp k hk.2).trans (s1.lp k hk.1)
end
theorem TR.blk{l:List St}{ts:TS}{vars:nf}{loops:List g9}(h:TR ts vars loops)(hT:TOk ts)(hf:fresh (ou l) ts)(h0:(km l ts).1=0):TR (m8 l (km l) ts).2 vars loops:=by
 have g:=qn4 l ts hT hf h0;have s:=SV.blk hT hf g (xck l ts hT hf h0) h0;have e:(m8 l (km l) ts).2.all=(km l ts).2.all:=by unfold m8;rw[if_neg cg]
 have sub:∀k,k∈ng ts.all→k∈ng (m8 l (km l) ts).2.all:=fun k hk=>by
  rw[e];rcases hx:jg ts.all k with _|v
  ·exact(qdp.1 hx hk).elim
  ·have:=g.mono _ _ hx;exact qmi fun hn=>by rw[qdp.2 hn]at this;cases this
 refine⟨fun k=>(s.vis k ae).trans (h.vis k),fun k hk=>?_,fun k hk=>sub k (h.lin k hk),s.lk h.lk,h.ty⟩;by_cases hn:k∈ou l
 ·have h1:=hf.2 k hn;exact(h.keys hT h1 hk).elim
 ·rw[s.lp k hn];exact h.lp k hk
mutual
theorem jb8:∀(t:St) (d:Nat) (ts:TS) (vars:nf) (loops:List g9),tv t d→TOk ts→fresh (nmS t) ts→TR ts vars loops→ut t vars loops=(um t ts).1∧((um t ts).1=0→TR (um t ts).2 (if t.op=1 then vars++[(t.name,(ki vars t).1)]else vars) loops)
 | .mk op name mx a b body els,d,ts,vars,loops,jm,hT,hf,h=>by
  obtain⟨t,ht⟩:∃t:St,t=.mk op name mx a b body els:=⟨_,rfl⟩
  have s6:t.body=body:=qit;have qns:t.els=els:=qit;rw[←ht]at jm hf⊢;have qw:=(xc _ _).1 jm;rw[qw3]at hf;rw[qyd];unfold qsx;rw[xgv h.vis t];have jy:=xaj jm;by_cases he:(ki vars t).2.2≠0
  ·rw[if_pos he];have e:ut t vars loops=(ki vars t).2.2:=by rw[qsb];simp[he]
   rw[e];exact⟨rfl,fun g=>(he g).elim⟩
  rw[if_neg he];have he:(ki vars t).2.2=0:=qiu;by_cases h1:t.op=1
  ·rw[if_pos h1,if_pos h1];have e:ut t vars loops=0:=by rw[qsb];simp[he,h1,pl]
   rw[e];refine⟨rfl,fun _=>?_⟩;rw[if_pos (.inl h1)]at hf;have hr:1≤(ki vars t).1∧(ki vars t).1≤3:=by
    unfold ki at he⊢;rw[if_neg aa,if_neg aa]at he⊢;exact xjl vars t.a he
   exact h.decl hT (hf.2 t.name ae) hr.1 hr.2
  rw[if_neg h1,if_neg h1];by_cases h2:t.op=2
  ·rw[if_pos h2];have e:ut t vars loops=qs0 vars loops t.name (ki vars t).1:=by rw[qsb];simp[he,h2,pl]
   rw[e];unfold qs0;rw[h.vis];rcases hx:jg vars t.name with _|ty
   ·exact⟨rfl,fun g=>by cases g⟩
   ·have hty:=h.ty _ _ hx;have hv:wn (some ty)=(ty,0):=by rw[wn,if_neg aa]
    rw[hv];simp only[ne_eq,not_true_eq_false,if_false];have hk:t.name∈ng vars:=qmi fun hn=>by rw[qdp.2 hn]at hx;cases hx
    have hl:=h.lp t.name hk;refine⟨?_,fun _=>h⟩;by_cases hm:jk loops t.name=true
    ·rw[if_pos hm,if_pos (hl.2 (ux.1 hm))]
    ·rw[if_neg hm,if_neg (fun g=>hm (ux.2 (hl.1 g)))];by_cases hq:ty=(ki vars t).1
     ·rw[if_neg cn,if_neg cn]
     ·rw[if_pos (fun g=>hq g.symm),if_pos hq]
  rw[if_neg h2];by_cases h3:t.op=3
  ·rw[if_pos h3];have e:ut t vars loops=if (ki vars t).1≠2∨(ki vars t).2.1=3 then 10 else 0:=by rw[qsb];simp[he,h3,pl]
   rw[e];exact⟨rfl,fun _=>h⟩
  rw[if_neg h3];by_cases h4:t.op=4
  ·rw[if_pos h4];have e:ut t vars loops=if (ki vars t).1≠2 then 10 else 0:=by rw[qsb];simp[he,h4,pl]
   rw[e];exact⟨rfl,fun _=>h⟩
  rw[if_neg h4];by_cases h7:t.op=7
  ·rw[if_pos h7];have e:ut t vars loops=if (ki vars t).1=3 then 10 else 0:=by rw[qsb];simp[he,h7,pl]
   rw[e];exact⟨rfl,fun _=>h⟩
  rw[if_neg h7];by_cases h5:t.op=5
  ·rw[if_pos h5];rw[if_neg aa,ej]at hf;by_cases hq:(ki vars t).1≠3
   ·rw[if_pos hq];have e:ut t vars loops=10:=by rw[qsb];simp[he,h5,pl,hq]
    rw[e];exact⟨rfl,fun g=>by simp at g⟩
   rw[if_neg hq];have xm:(ki vars t).1=3:=qj6;have e:ut t vars loops=if rn t.body vars loops=0 then rn t.els vars loops else rn t.body vars loops:=by rw[qsb];simp[he,h5,pl,xm]
   rw[e];have r1:rn t.body vars loops=(km t.body ts).1:=by
    have hf':=hf.left;rw[s6]at hf'⊢;exact xb5 body (d+1) ts vars loops (by rw[←s6];exact qw.2.1) hT hf' h
   rw[r1];by_cases hz:(km t.body ts).1=0
   ·have hb0:(m8 t.body (km t.body) ts).1=0:=by unfold m8;rw[if_neg (by simp[hz])]
    rw[hz,if_pos rfl,if_neg (by simp[hb0])];have g1:=TGo.blk (l:=t.body) (f:=km t.body) (fun g=>qn4 t.body ts hT hf.left g) hb0;have hf2:=hf.right g1;have hR:=h.blk hT hf.left hz;have r2:rn t.els vars loops=(km t.els (m8 t.body (km t.body) ts).2).1:=by
     have hf':=hf2;rw[qns]at hf'⊢;exact xb5 els (d+1) _ vars loops (by rw[←qns];exact qw.2.2) g1.ok hf' hR
    rw[r2];exact⟨by rw[xwu],fun g=>hR.blk g1.ok hf2 (xa4 g)⟩
   ·have hb0:m8 t.body (km t.body) ts=km t.body ts:=by unfold m8;rw[if_pos hz]
    rw[if_neg hz,hb0,if_pos hz];exact⟨rfl,fun g=>(hz g).elim⟩
  rw[if_neg h5];by_cases h6:t.op=6
  ·rw[if_pos h6];rw[if_pos (.inr h6)]at hf;by_cases hq:(ki vars t).1≠1∨(ki vars t).2.1≠1
   ·rw[if_pos hq];have e:ut t vars loops=10:=by rw[qsb];simp[he,h6,pl,hq]
    rw[e];exact⟨rfl,fun g=>by simp at g⟩
   rw[if_neg hq];have xm:(ki vars t).1=1∧(ki vars t).2.1=1:=by simpa[not_or]using hq
   have e:ut t vars loops=rn t.body (vars++[(t.name,1)]) (loops++[t.name]):=by rw[qsb];simp[he,h6,pl,xm.1,xm.2]
   rw[e];have hn:=hf.2 t.name ae;have g0:=TGo.set hT hn 1 (js ts.loops t.name true);have hfb:=(hf.right g0).left;have hR:=h.loop hT hn;have r1:rn t.body (vars++[(t.name,1)]) (loops++[t.name])=(km t.body ⟨js ts.visible t.name 1,js ts.loops t.name true,js ts.all t.name 1⟩).1:=by
    have hf':=hfb;rw[s6]at hf'⊢;exact xb5 body (d+1) _ _ _ (by rw[←s6];exact qw.2.1) g0.ok hf' hR
   rw[r1];refine⟨?_,fun g=>?_⟩
   ·simp only;rw[xwu]
   ·have hz:=xa4 g;have hR1:=hR.blk g0.ok hfb hz;have g1:=TGo.blk (l:=t.body) (f:=km t.body) (fun g=>qn4 t.body _ g0.ok hfb g) g;have hsv:=xtq t ts hT (by rw[qw3,if_pos (.inr h6)];exact hf) (by
     rw[qyd];unfold qsx;rw[xgv h.vis t,if_neg (by simp[he]),if_neg h1,if_neg h2,if_neg h3,if_neg h4,if_neg h7,if_neg h5,if_pos h6,if_neg hq];exact g)
    have hsT:(um t ts).2=⟨qp3 (m8 t.body (km t.body) ⟨js ts.visible t.name 1,js ts.loops t.name true,js ts.all t.name 1⟩).2.visible t.name,(m8 t.body (km t.body) ⟨js ts.visible t.name 1,js ts.loops t.name true,js ts.all t.name 1⟩).2.loops,(m8 t.body (km t.body) ⟨js ts.visible t.name 1,js ts.loops t.name true,js ts.all t.name 1⟩).2.all⟩:=by
     rw[qyd];unfold qsx;rw[xgv h.vis t,if_neg (by simp[he]),if_neg h1,if_neg h2,if_neg h3,if_neg h4,if_neg h7,if_neg h5,if_pos h6,if_neg hq]
    rw[hsT,if_neg h1]at hsv;refine⟨fun k=>(hsv.vis k ae).trans (h.vis k),fun k hk=>?_,fun k hk=>hR1.lin k qil,hR1.lk,h.ty⟩;have ii:k≠t.name:=fun e=>by subst e;exact h.keys hT hn hk
    have:=hR1.lp k ((xkv _ _ _ _).2 (.inl hk));simp only at this⊢;rw[this];simp[ii]
  ·rcases jy with g|g|g|g|g|g|g|g
   ·exact(h1 g).elim
   ·exact(h2 g).elim
   ·exact(h3 g).elim
   ·exact(h4 g).elim
   ·exact(h5 g).elim
   ·exact(h6 g).elim
   ·exact(h7 g).elim
   ·rw[if_neg h6];have e:ut t vars loops=0:=by rw[qsb];simp[he,g,pl]
    rw[e];exact⟨rfl,fun _=>h⟩
theorem xb5:∀(l:List St) (d:Nat) (ts:TS) (vars:nf) (loops:List g9),x6 l d→TOk ts→fresh (ou l) ts→TR ts vars loops→rn l vars loops=(km l ts).1
 | [],d,ts,vars,loops,_,_,_,_=>by rw[rn,km]
 |t::l,d,ts,vars,loops,jm,hT,hf,h=>by
  rw[ou]at hf;have r1:=jb8 t d ts vars loops (jm t ae) hT hf.left h;rw[rn,km,r1.1];by_cases he:(um t ts).1≠0
  ·rw[if_pos he,if_pos he]
  ·rw[if_neg he,if_neg he];have he:(um t ts).1=0:=qiu;have g1:=xct t ts hT hf.left he;exact xb5 l d _ _ _ (fun x hx=>jm x bt) g1.ok (hf.right g1) (r1.2 he)
end
def qqd:List g9→List g9→Bool
 |_,[]=>false
 |pre,x::l=>jk pre x||qqd (pre++[x]) l
theorem xio:∀(l pre:List g9),qqd pre l=false↔l.Nodup∧∀x∈l,x∉pre
 | [],pre=>by simp[qqd]
 |x::l,pre=>by
  have hk:jk pre x=false↔x∉pre:=by rw[←ux];simp
  rw[qqd,ql6,xio l (pre++[x]),gg,hk];constructor
  ·rintro⟨h1,h2,h3⟩;refine⟨⟨fun hm=>h3 x hm ae,h2⟩,fun y hy=>?_⟩;rcases cw.1 hy with rfl|hy
   ·exact h1
   ·exact fun g=>h3 y hy (by simp[g])
  ·rintro⟨⟨h1,h2⟩,h3⟩;refine⟨h3 x ae,h2,fun y hy g=>?_⟩;rcases dt.1 g with g|g
   ·exact h3 y cm g
   ·exact h1 (ei.1 g▸hy)
theorem xyn(l:List g9):qrr [] l=qqd [] l:=by
 have h1:=xi9 l [] ae;have h2:=xio l [];simp only[ng,e6]at h1;cases a:qrr [] l<;>cases b:qqd [] l<;>simp_all
abbrev qs5(l:List Param):nf:=l.map fun p=>(p.name,p.ty)
def qzc(p:Proc):Int :=
 if s7 p≠0 then s7 p
 else if p.params.any (fun x=>decide (x.ty=3))then 10
 else if qqd [] (yp p)then 8
 else rn p.body (qs5 p.params) []
theorem TR.params:∀(ps pre:List Param) (ts:TS),TOk ts→fresh (ps.map (·.name)) ts→TR ts (qs5 pre) []→(∀x∈ps,1≤x.ty∧x.ty≤3)→TR (y5 ps ts) (qs5 (pre++ps)) []
 | [],pre,ts,_,_,h,_=>by rw[e8];exact h
 |x::l,pre,ts,hT,hf,h,ht=>by
  have hd:y5 (x::l) ts=y5 l (ts.decl x.name x.ty):=rfl;rw[hd];have hf':fresh ([x.name]++l.map (·.name)) ts:=hf
  have hn:=hf'.2 x.name ae;have g:=TGo.set hT hn x.ty ts.loops;have hx:=ht x ae;have:=TR.params l (pre++[x]) (ts.decl x.name x.ty) g.ok (hf'.right g) (by
   have e:qs5 (pre++[x])=qs5 pre++[(x.name,x.ty)]:=by simp[qs5]
   rw[e];exact h.decl hT hn hx.1 hx.2) (fun y hy=>ht y cm)
  rw[dr]at this;exact this
theorem xmz:∀(l pre:List Param),qdn pre l=0→∀x∈l,1≤x.ty∧x.ty≤3
 | [],pre,_=>by simp
 |x::l,pre,h=>by
  rw[qdn]at h;split at h
  ·cases h
  split at h
  ·cases h
  rename_i h2;split at h
  ·cases h
  intro y hy;rcases cw.1 hy with rfl|hy
  ·omega
  ·exact xmz l _ h y hy
theorem xsq{p:Proc}(h:s7 p=0):∀x∈p.params,1≤x.ty∧x.ty≤3:=by
 unfold s7 at h;split at h
 ·cases h
 split at h
 ·rename_i h1;exact(h1 h).elim
 ·rename_i h1;simp only[Decidable.not_not]at h1;unfold qtb at h1;split at h1
  ·cases h1
  ·exact xmz _ _ h1
theorem xxg(p:Proc):qzc p=zh p:=by
 unfold qzc zh;rw[xyn];by_cases hv:s7 p≠0
 ·rw[if_pos hv,if_pos hv]
 rw[if_neg hv,if_neg hv];have hv:s7 p=0:=bx;by_cases h3:(p.params.any fun x=>decide (x.ty=3))=true
 ·rw[if_pos h3,if_pos h3]
 rw[if_neg h3,if_neg h3];by_cases hd:qqd [] (yp p)=true
 ·rw[if_pos hd,if_pos hd]
 rw[if_neg hd,if_neg hd];have hd:qqd [] (yp p)=false:=by simpa using hd
 rw[xfu hv]at hd;have hnd:=((xio _ []).1 hd).1;have hF:fresh (p.params.map (·.name)++ou p.body) ⟨[],[],[]⟩:=⟨hnd,by simp[ng]⟩
 have hT0:TOk ⟨[],[],[]⟩:=⟨by simp[ng],.refl _⟩
 have gP:=xl6 p.params ⟨[],[],[]⟩ hT0 hF.left;have hR0:TR ⟨[],[],[]⟩ (qs5 []) []:=⟨fun _=>rfl,fun k hk=>(by cases hk),fun k hk=>(by cases hk),fun k v hk=>(by simp[jg]at hk),fun k v hk=>(by simp[jg]at hk)⟩
 have hR:=TR.params p.params [] _ hT0 hF.left hR0 (xsq hv);rw[xb5 p.body 1 _ _ _ (qzb hv) gP.ok (hF.right gP) qj7];unfold qpq m8;split
 ·rfl
 ·rename_i hn;simpa using hn
abbrev cut(n:Int):Int:=mn n 16385
mutual
def rgE:Ex→Int
 | .mk op _ _ args=>rgL args (if op=22∨op=23∨op=24 then 1 else 0)
def rgL:List Ex→Int→Int
 | [],n=>n
 |e::l,n=>rgL l (cut (jt (n+rgE e)))
end
theorem joh(e:Ex):rgE e=rgL e.args (if e.op=22∨e.op=23∨e.op=24 then 1 else 0):=by cases e;rw[rgE];rfl
mutual
theorem xj5:∀(e:Ex),rgE e=mn (gE e) 16385
 | .mk op n s args=>by
  have m0:(0:Int)=mn (0:Nat) 16385:=bc;have m1:(1:Int)=mn (1:Nat) 16385:=bc;rw[rgE,gE];split
  ·rw[m1,xhf]
  ·rw[m0,xhf]
theorem xhf:∀(l:List Ex) (N:Nat),rgL l (mn N 16385)=mn (N+gL l:Nat) 16385
 | [],N=>by rw[rgL,gL];rfl
 |e::l,N=>by
  rw[rgL,xj5 e,cut,xaq,xhf l,gL,qli]
end
def qtg(t:St):Cnt:=⟨1,cut (jt (rgE t.a+rgE t.b)),if t.op=3∨t.op=4 then 1 else 0,if t.op=7 then 1 else 0⟩
def Cnt.rtimes(n:Int)(x:Cnt):Cnt:=⟨cut (jt (n * x.st)),cut (jt (n * x.ge)),cut (jt (n * x.pu)),cut (jt (n * x.em))⟩
mutual
def rcS:St→Cnt
 | .mk op name m a b body els =>
  let x:=qtg (.mk op name m a b body els)
  let x:=if op=5 then x.plus ((rcL body ⟨0,0,0,0⟩).larger (rcL els ⟨0,0,0,0⟩))else x
  if op=6 then(x.plus (Cnt.rtimes m (rcL body ⟨0,0,0,0⟩))).plus ⟨m,0,0,0⟩else x
def rcL:List St→Cnt→Cnt
 | [],c=>c
 |t::l,c=>rcL l (c.plus (rcS t))
end
abbrev rcB(l:List St):Cnt:=rcL l ⟨0,0,0,0⟩
theorem xun(t:St):rcS t =
  (let x:=qtg t
  let x:=if t.op=5 then x.plus ((rcB t.body).larger (rcB t.els))else x
  if t.op=6 then(x.plus (Cnt.rtimes t.max (rcB t.body))).plus ⟨t.max,0,0,0⟩else x):=by cases t;rw[rcS];rfl
theorem xk6{e:Ex}(h:zp e=true):gE e=0:=by
 unfold zp at h;simp only[c0,decide_eq_true_eq]at h;rw[jg1,fk h.2,gL,if_neg aa]
theorem xr3{t:St}{d:Nat}(h:tv t d)(h3:¬(t.op=3∨t.op=6)):zp t.b=true:=by
 have h1:=((xc t d).1 h).1;have hs:vd t (mu t.op).1=true:=by
  unfold sg at h1;by_cases g:(mu t.op).2=false∨vd t (mu t.op).1=false
  ·rw[if_pos g]at h1;cases h1
  ·simp at g;exact g.2
 have hu:(mu t.op).1.b=false:=by
  unfold mu
  repeat' split
  all_goals first|rfl|omega
 unfold vd at hs;simp[hu]at hs;exact hs.1.1.1.1.2
theorem jni{t:St}{d:Nat}(h:tv t d)(h8:t.op=8):zp t.a=true:=by
 have h1:=((xc t d).1 h).1;have hs:vd t (mu t.op).1=true:=by
  unfold sg at h1;by_cases g:(mu t.op).2=false∨vd t (mu t.op).1=false
  ·rw[if_pos g]at h1;cases h1
  ·simp at g;exact g.2
 have hu:(mu t.op).1.a=false:=by rw[h8];rfl
 unfold vd at hs;simp[hu]at hs;exact hs.1.1.1.1.1.2
def n1(t:St):N4:=⟨1,gE t.a+gE t.b,if t.op=3∨t.op=4 then 1 else 0,if t.op=7 then 1 else 0⟩
theorem xzj(t:St):qtg t=rx (n1 t):=by
 have m0:mn 0 16385=0:=bc;have m1:mn 1 16385=1:=bc;unfold qtg rx n1;rw[xj5,xj5,cut,xaq];have e1:mn ((1:Nat):Int) 16385=1:=m1;have e2:∀P:Prop,[Decidable P]→mn (((if P then 1 else 0:Nat):Nat):Int) 16385=if P then 1 else 0:=fun P _=>by by_cases h:P<;>simp[h,m0,m1]
 simp only[e1,e2]
theorem jhs(n:Int)(x:Cnt):Cnt.rtimes n x=x.times n:=by
 simp only[Cnt.rtimes,Cnt.times,Int.mul_comm n]
theorem jmp{t:St}{d:Nat}(h:tv t d):n1 t=N4.one.add ⟨0,(n0 t.op t.max t.a t.b).ge,(n0 t.op t.max t.a t.b).pu,(n0 t.op t.max t.a t.b).em⟩:=by
 unfold n1 N4.one N4.add n0;simp only[db,d6,N4.mk.injEq,true_and,and_true];by_cases h8:t.op=8
 ·rw[if_pos h8,xk6 (jni h h8),xk6 (xr3 h aa),if_neg aa]
 ·rw[if_neg h8];by_cases h3:t.op=3∨t.op=6
  ·rw[if_pos h3]
  ·rw[if_neg h3,xk6 (xr3 h h3)]
theorem xkm{l:List St}:∀(x:N4),(∀t∈l,rcS t=rx (N4.one.add (nS t)))→rcL l (rx x)=rx (x.add (nL l)):=by
 induction l with
 |nil=>intro x _;rw[rcL,nL];rfl
 |cons t l ih =>
  intro x h;rw[rcL,h t ae,qym,ih _ (fun y hy=>h y cm),nL];simp only[N4.add,qli]
theorem xin:∀(t:St) (d:Nat),tv t d→rcS t=rx (N4.one.add (nS t))
 | .mk op name mx a b body els,d,h=>by
  have h1:=(xc _ _).1 h;have hb:rcB body=rx (nL body):=by
   have:=xkm (l:=body) .zero fun x hx=>by
    have:=fj (show x∈body from hx);exact xin x (d+1) (h1.2.1 x hx)
   rw[qzg,qzj]at this;exact this
  have he:rcB els=rx (nL els):=by
   have:=xkm (l:=els) .zero fun x hx=>by
    have:=fj (show x∈els from hx);exact xin x (d+1) (h1.2.2 x hx)
   rw[qzg,qzj]at this;exact this
  obtain⟨t,ht⟩:∃t:St,t=.mk op name mx a b body els:=⟨_,rfl⟩
  have s6:t.body=body:=qit;have qns:t.els=els:=qit;rw[←ht]at h⊢;rw[←s6]at hb;rw[←qns]at he;rw[xun,xq7,xzj,jmp h];simp only;by_cases h5:t.op=5
  ·rw[if_pos h5,if_pos h5,if_neg aa,hb,he,xox,qym];congr 1;simp[N4.add,N4.one,n0,h5,qli]
  by_cases h6:t.op=6
  ·have hm:=xa7 h h6;have e1:(⟨t.max,0,0,0⟩:Cnt)=rx ⟨t.max.toNat,0,0,0⟩:=by
    have m0:mn 0 16385=0:=bc;unfold rx;rw[xtm (show t.max.toNat≤16385 by omega)];simp[m0];omega
   rw[if_neg h5,if_pos h6,if_neg h5,if_pos h6,jhs,hb,xt8 hm.1 hm.2,e1,qym,qym];congr 1;simp[N4.add,N4.one,N4.mul,n0,h6];omega
  ·rw[if_neg h5,if_neg h6,if_neg h5,if_neg h6,xvp];congr 1;simp[N4.add,N4.one,n0,h6]
termination_by t=>SizeOf.sizeOf t
decreasing_by
 all_goals
  simp only[St.mk.sizeOf_spec];omega
theorem jde{l:List St}{d:Nat}(h:x6 l d):rcB l=ru l:=by
 have:=xkm (l:=l) .zero fun x hx=>xin x d (h x hx);rw[qzg,qzj]at this;rw[xra h];exact this
abbrev qqe(e:Ex):List Int:=(qq5 e).map (·.op)
abbrev opsL(l:List Ex):List Int:=(wc l).map (·.op)
theorem jg4(e:Ex):qqe e=e.op::opsL e.args:=by simp[qqe,opsL,xkq]
theorem xr9(e:Ex)(l:List Ex):opsL (e::l)=qqe e++opsL l:=by simp[qqe,opsL,wc]
def quq:List Int→Int→Int×Int×Bool
 | [],_=>(0,0,false)
 |o::l,k=>if qsv o then(o,k,true)else quq l (k+1)
theorem xsd:∀(l:List Ex) (k:Int),qzw l k=quq (l.map (·.op)) k
 | [],k=>rfl
 |e::l,k=>by
  simp only[qzw,c8,quq,xsd l]
theorem jm0{p:Proc}(h:s7 p=0):qrk p=quq (opsL (rg p)) 0:=by
 unfold qrk;rw[if_neg co,xsd]
theorem xia{n:Int}(h:9223372036854775807<n)(h2:n<27670116110564327424):jt n=n - 18446744073709551616:=by
 unfold jt;simp only[IntKind.wrap,IntKind.bits,IntKind.signed];simp;omega
theorem xq9{n:Int}(h:n < -9223372036854775808)(h2:-27670116110564327424≤n):jt n=n+18446744073709551616:=by
 unfold jt;simp only[IntKind.wrap,IntKind.bits,IntKind.signed];simp;omega
theorem qqi{n:Int}(h:i64 n):jt n=n:=qrx (by have:=h.1;omega) (by have:=h.2;omega)
theorem jim(n:Int):∃k:Int,jt n=n+18446744073709551616 * k:=by
 unfold jt;simp only[IntKind.wrap,IntKind.bits,IntKind.signed];simp;split
 ·exact⟨-(n / 18446744073709551616) - 1,aa⟩
 ·exact⟨-(n / 18446744073709551616),aa⟩
theorem jle{a b:Int}(ha:i64 a)(hb:i64 b):((0<b∧jt (9223372036854775807 - b)<a)∨(b<0∧a<jt (-9223372036854775808 - b)))↔((0<b∧jt (a+b)<a)∨(b<0∧a<jt (a+b))):=by
 obtain⟨a1,a2⟩:=ha;obtain⟨b1,b2⟩:=hb;by_cases h:0<b
 ·rw[qqi (n:=9223372036854775807 - b) ⟨aa,aa⟩];by_cases h2:a+b≤9223372036854775807
  ·rw[qqi (n:=a+b) ⟨aa,h2⟩];omega
  ·rw[xia (n:=a+b) aa aa];omega
 ·by_cases h0:b=0
  ·omega
  ·rw[qqi (n:=-9223372036854775808 - b) ⟨aa,aa⟩];by_cases h2:-9223372036854775808≤a+b
   ·rw[qqi (n:=a+b) ⟨h2,aa⟩];omega
   ·rw[xq9 (n:=a+b) aa aa];omega
theorem jh4{a b:Int}(ha:i64 a)(hb:i64 b):((b<0∧jt (9223372036854775807+b)<a)∨(0<b∧a<jt (-9223372036854775808+b)))↔((0<b∧a<jt (a - b))∨(b<0∧jt (a - b)<a)):=by
 obtain⟨a1,a2⟩:=ha;obtain⟨b1,b2⟩:=hb;by_cases h:0<b
 ·rw[qqi (n:=-9223372036854775808+b) ⟨aa,aa⟩];by_cases h2:-9223372036854775808≤a - b
  ·rw[qqi (n:=a - b) ⟨h2,aa⟩];omega
  ·rw[xq9 (n:=a - b) aa aa];omega
 ·by_cases h0:b=0
  ·omega
  ·rw[qqi (n:=9223372036854775807+b) ⟨aa,aa⟩];by_cases h2:a - b≤9223372036854775807
   ·rw[qqi (n:=a - b) ⟨aa,h2⟩];omega
   ·rw[xia (n:=a - b) aa aa];omega
theorem jk3{a:Int}(ha:i64 a):t0 0 a=wj a:=by
 obtain⟨a1,a2⟩:=ha;unfold t0 wj;have e:(0:Int) - a = -a:=aa;rw[e];by_cases h:a = -9223372036854775808
 ·subst h;rw[if_pos rfl,if_pos];rw[xia (n:=- -9223372036854775808) aa aa];omega
 ·rw[if_neg h,qqi (n:=-a) ⟨aa,aa⟩,if_neg aa]
def yu(a:Int):Int:=if a<0 then -a else a
theorem jj7{a:Int}(ha:i64 a):IntKind.u64.wrap (0 - IntKind.u64.wrap a)=if a<0 then -a else if a=0 then 0 else 18446744073709551616 - a:=by
 obtain⟨a1,a2⟩:=ha;simp only[IntKind.wrap,IntKind.bits,IntKind.signed];simp;omega
theorem xbc{a:Int}(h0:0≤a)(h1:a<18446744073709551616):IntKind.u64.wrap a=a:=by
 simp only[IntKind.wrap,IntKind.bits,IntKind.signed];simp;omega
theorem jas{a b:Int}(ha:i64 a)(hb:i64 b)(h0:a≠0)(h1:b≠0):(i64 (a * b)→qnw a b=(a * b,0))∧(¬i64 (a * b)→qnw a b=(0,3)):=by
 obtain⟨a1,a2⟩:=ha;obtain⟨b1,b2⟩:=hb;unfold qnw;rw[if_neg aa];by_cases hm:a = -1
 ·rw[if_pos hm,hm];unfold wj;have e:(-1:Int) * b = -b:=aa;rw[e];unfold i64;by_cases li:b = -9223372036854775808
  ·rw[if_pos li];exact⟨fun h=>by omega,fun _=>rfl⟩
  ·rw[if_neg li];exact⟨fun h=>by rw[qqi h],fun h=>by omega⟩
 rw[if_neg hm];by_cases hn:b = -1
 ·rw[if_pos hn,hn];unfold wj;have e:a * (-1:Int) = -a:=aa;rw[e];unfold i64;by_cases ha2:a = -9223372036854775808
  ·rw[if_pos ha2];exact⟨fun h=>by omega,fun _=>rfl⟩
  ·rw[if_neg ha2];exact⟨fun h=>by rw[qqi h],fun h=>by omega⟩
 rw[if_neg hn];refine⟨fun h=>?_,fun h=>?_⟩
 ·rw[qqi h,Int.mul_tdiv_cancel a h1,qqi ⟨a1,a2⟩,if_neg ae]
 ·rw[if_pos];intro he;obtain⟨k,hk⟩:=jim (a * b);obtain⟨w,hw⟩:∃w,jt (a * b)=w:=⟨_,rfl⟩
  have hwi:i64 w:=by rw[←hw];exact qth _
  rw[hw]at he hk;have hq:(w.tdiv b).natAbs≤w.natAbs:=by rw[Int.natAbs_tdiv];exact Nat.div_le_self _ _
  have hq2:b≠-1:=hn;have hqi:i64 (w.tdiv b):=by
   obtain⟨w1,w2⟩:=hwi;have hbn:2≤b.natAbs∨b=1:=aa;rcases hbn with hbn|hbn
   ·have:(w.tdiv b).natAbs≤w.natAbs / 2:=by
     rw[Int.natAbs_tdiv];exact Nat.div_le_div_left hbn bc
    exact⟨aa,aa⟩
   ·rw[hbn,Int.tdiv_one];exact⟨w1,w2⟩
  rw[qqi hqi]at he;have hd:=Int.mul_tdiv_add_tmod w b;rw[he,Int.mul_comm b a]at hd;have hr:(w.tmod b).natAbs<b.natAbs:=by
   rw[Int.natAbs_tmod];exact Nat.mod_lt _ aa
  have hkz:k=0:=aa;subst hkz;apply h;rw[←show w=a * b by omega];exact hwi
theorem xuc{a b:Int}(ha:i64 a)(hb:i64 b)(h0:a≠0)(h1:b≠0)(L:Int)(hL:L=if (decide (a<0)≠decide (b<0))then 9223372036854775808 else 9223372036854775807):L.tdiv (yu b)<yu a↔¬i64 (a * b):=by
 have hbp:0<yu b:=qf8;have hap:0<yu a:=qf8;have hL0:0≤L:=by rw[hL];split<;>omega
 rw[Int.tdiv_eq_ediv_of_nonneg hL0,Int.ediv_lt_iff_lt_mul hbp];have hp:yu a * yu b=if (decide (a<0)≠decide (b<0))then -(a * b)else a * b:=by
  unfold yu;by_cases ha':a<0<;>by_cases il:b<0<;>simp[ha',il,Int.neg_mul,Int.mul_neg]
 have kq:0<yu a * yu b:=Int.mul_pos hap hbp;rw[hp]at kq⊢;rw[hL];unfold i64;obtain⟨p,hpp⟩:∃p,a * b=p:=⟨_,rfl⟩
 rw[hpp]at kq⊢;split
 ·rename_i h;rw[if_pos h]at kq;omega
 ·rename_i h;rw[if_neg h]at kq;omega
def dig(u:Nat):g9:=⟨#[UInt8.ofNat (48+u % 10)]⟩
theorem jn8{u:Nat}(h:10≤u):Lib.decDigits u=Lib.decDigits (u / 10)++[UInt8.ofNat (48+u % 10)]:=by
 rw[Lib.decDigits,dif_neg aa]
theorem ja1{u:Nat}(h:u<10):Lib.decDigits u=[UInt8.ofNat (48+u)]:=by
 rw[Lib.decDigits,dif_pos h]
def qst(u:Nat)(s:g9):List UInt8:=if u=0∧s≠em then bl s else Lib.decDigits u++bl s
theorem jnv{u:Nat}{s:g9}(h:0<u∨s=em):qst (u / 10) (dig u++s)=qst u s:=by
 have ii:dig u++s≠em:=fun e=>by
  have:=congrArg ByteArray.size e;rw[qmj]at this;have h1:(dig u).size=1:=rfl;have h2:ByteArray.size em=0:=rfl;omega
 have hb:bl (dig u++s)=UInt8.ofNat (48+u % 10)::bl s:=by simp[bl,dig]
 have hr:qst u s=Lib.decDigits u++bl s:=by
  unfold qst;rw[if_neg];rintro⟨h1,h2⟩;rcases h with h|h
  ·omega
  ·exact h2 h
 rw[hr];unfold qst;by_cases h10:u<10
 ·have e0:u / 10=0:=aa;rw[e0,if_pos ⟨rfl,ii⟩,hb,ja1 h10];have:u % 10=u:=aa;rw[this];rfl
 ·rw[if_neg (fun g=>by have:=g.1;omega),hb,jn8 (u:=u) aa,dr];rfl
theorem jbb(u:Nat)(s:g9):s.size≤(qst u s).length:=by
 have h:(bl s).length=s.size:=rfl;unfold qst;split
 ·omega
 ·simp;omega
theorem jn2{s:g9}(h:s≠em):qst 0 s=bl s:=by
 unfold qst;rw[if_pos ⟨rfl,h⟩]
theorem xtg{a b:g9}(h:bl a=bl b):a=b:=by
 cases a with
 |mk x=>cases b with
  |mk y=>simp[bl]at h;subst h;rfl
end Go.Cw
