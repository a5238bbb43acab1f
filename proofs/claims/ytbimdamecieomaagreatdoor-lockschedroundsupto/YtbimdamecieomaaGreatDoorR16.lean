/- Part 16 of a proof. -/
import Derived.Recover
import Derived.Shelf.Spec.SlicesInsert
import Derived.Test.YtbimdamecieomaaGreatDoorR13
import Derived.Test.YtbimdamecieomaaGreatDoorR15
set_option linter.all false

namespace Go.Abs
section
variable {P:Program} {E:Ent}
theorem xs9{ops:Array Oper}{done rest:List Oper}{o1:Oper}{Q:AExit→Env→Prop}{e:Env}(te:ops.toList=done++(o1::rest))(hg:gB (done.map (·.dst)) e o1.guard=some true)(hd:yw E.N o1.dst)
  (h:qpf P e o1.op (fun v h'=>qrb P E ops rest Q (({ e with h:=h' }:Env).put o1.dst (q8 o1.guard true v))) (fun _ _=>False)):qrb P E ops (o1::rest) Q e:=by
 intro c a w s k;have hw:=qx8 te s hg;refine qcs (G:=true) hw (fun _=>?_) (fun h=>by cases h);refine xgx s k h (fun v h' c' w' u hK ig jd kb hr=>?_) (fun v h' c' w' u hK _ _ _ _=>hK.elim);refine hK c' _ w' (s.put ig jd (qxy hd) ?_) (by cases o1.dst<;>exact kb);unfold q8;split
 ·exact hr
 ·exact .opt _ _ _ (fun _=>hr) (fun hf=>by cases hf)
theorem xzq(E:Ent)(e:Env)(i:Nat):Wk E e ⟨(i,(kj e.t i).norm e.h)::e.t,e.h⟩:=fun c a w s k =>
 ⟨c,⟨s.defers,s.size,fun j=>by
  simp only[kj];by_cases hj:i=j
  ·subst hj;simp only[beq_self_eq_true,cond_true];exact qep s.hs (s.tmps i)
  ·have:(i == j)=false:=bf;simp only[this,cond_false];exact s.tmps j,s.hs⟩,k⟩
end
end Go.Abs

namespace Go.Abs
section
variable {P:Program} {E:Ent}
theorem jl8{fn:Func}{n0:Nat}{R:AEnd→gz→Prop}{x':AExit}{e':Env}{c':Ctx}{ex:Exit}{a':Act}{w':World}(hn0:E.h.length≤n0)(hq:qxr P fn.results.toList n0 R x' e')(hx:XR c' x' ex)
  (s:Sim E.N c' e' a' w') (k:E.ok c' e'.h w') :
  (∃v r h' c2,(ex=.ret∨ex=.normal)∧(results fn a'.tmps).run P w'=.ok v w'∧R (.ret r) h'∧Rel c2 r v∧HSim c2 h' w'∧E.ok c2 h' w') ∨
  (∃u r h' c2,ex=.panic [⟨u,false,false⟩]∧R (.panic r) h'∧Rel c2 r u∧HSim c2 h' w'∧E.ok c2 h' w'):=by
 have fin:∀e'':Exit,(e''=.ret∨e''=.normal)→qxk P fn.results.toList n0 R e'→∃v r h' c2,(e''=.ret∨e''=.normal)∧(results fn a'.tmps).run P w'=.ok v w'∧R (.ret r) h'∧Rel c2 r v∧HSim c2 h' w'∧E.ok c2 h' w':=by
  rintro e'' he ⟨iq,r',h',h1,h2,h3,h4,h5,hR⟩;obtain⟨v,hv,hr⟩:=xey (P:=P) s fn iq;obtain⟨c2,g1,g2,g3⟩:=finish s k hr h1 h2 h3 aa h5;exact⟨v,r',h',c2,he,hv,hR,g3,g1,g2⟩
 cases x' with
 |normal=>cases ex<;>simp only[XR]at hx;exact .inl (fin _ (.inr rfl) hq)
 |exit i=>exact hq.elim
 |ret=>cases ex<;>simp only[XR]at hx;exact .inl (fin _ (.inl rfl) hq)
 |panic x =>
  cases ex with
  |panic ch =>
   cases ch with
   |nil=>simp[XR]at hx
   |cons p l =>
    cases l with
    |nil =>
     obtain⟨u,r,g⟩:=p;cases r<;>cases g<;>simp only[XR]at hx;obtain⟨v',h',h1,h2,h3,h4,h5,hR⟩:=hq;obtain⟨c2,g1,g2,g3⟩:=finish s k hx h1 h2 h3 aa h5;exact .inr ⟨u,v',h',c2,rfl,hR,g3,g1,g2⟩
    |cons=>simp[XR]at hx
  |_=>simp[XR]at hx
theorem xvt{fn:Func}{code:Code}{e:Env}{a:Act}{c:Ctx}{w:World}(s:Sim E.N c e a w)(k:E.ok c e.h w){H:gz}{n0:Nat}(hn0:E.h.length≤n0)
  (body:AWp P E code (qxr P fn.results.toList n0 fun r h'=>r=.ret (.tuple [])∧h'=H) e) {c₀:Frame} {U:FrameMode} {cs:List Frame} :
  code.wpS P (bodyPostS P fn c₀ cs fun en u' w'=>(∃v,en=.returned v)∧u'=U∧∃c',HSim c' H w'∧E.ok c' H w') a ({ c₀ with mode:=U }::cs) w:=by
 refine wpS_of_wp (wp_mono (body c a w s k) ?_);rintro ex a' w' ⟨x',e',c',hq,hx,jd,ok'⟩;rcases jl8 hn0 hq hx jd ok' with⟨v,r,h',c2,he,hv,⟨_,rfl⟩,_,g1,g2⟩|⟨u,r,h',c2,he,⟨h0,_⟩,_⟩
 ·rcases he with rfl|rfl
  ·exact⟨jd.defers,U,rfl,v,hv,⟨v,rfl⟩,rfl,c2,g1,g2⟩
  ·exact⟨jd.defers,U,rfl,v,hv,⟨v,rfl⟩,rfl,c2,g1,g2⟩
 ·cases h0
end
end Go.Abs
namespace Go.Abs
theorem qb1{n:Nat}{o:AObj}{i:Nat}{h:gz}(hu:hUnder n h=true)(ho:o.under n=true):hUnder n (h.set i o)=true:=by
 rw[qcb]at hu⊢;intro x hx;rcases qmk hx with hx|rfl
 ·exact hu x hx
 ·exact ho
theorem xus{h:gz}{n:Nat}{o o':AObj}(hn:n≤h.length):hwk ((h.set n o).set (n+1) o') (h.take n):=by
 have e:((h.set n o).set (n+1) o')=h.take n++(((h.set n o).set (n+1) o').drop n):=by
  rw[show h.take n=((h.set n o).set (n+1) o').take n from ?_,qlh];apply fy;intro i;simp only[dx];split
  ·rw[dm aa,dm aa]
  ·rfl
 rw[e];exact hwk.app0 _
def mr(d:List Deferred)(a:Act):Act:={ a with defers:=a.defers++d }
theorem xro{P:Program}{o:Oper}{d:List Deferred}{a:Act}{next next':Act→World→Prop}{Q Q':Exit→Act→World→Prop}{r:Result Next}(h:o.upon P a next Q r)
  (hn:∀a w,next a w→next' (mr d a) w) (hq:∀x a w,Q x a w→Q' x (mr d a) w):o.upon P (mr d a) next' Q' r:=by
 have put:∀(a:Act) (t:Option Tmp) (v:Value),(mr d a).put t v=mr d (a.put t v):=fun a t v=>by cases t<;>rfl
 have lets:LetsOut Q→LetsOut Q':=fun ⟨a,w,h⟩=>⟨mr d a,w,hq _ _ _ h⟩
 unfold Oper.upon at h⊢;split at h
 ·rw[put];exact hn _ _ h
 ·rw[put];exact hn _ _ h
 ·rename_i d0 w';have e:({ mr d a with defers:=d0::(mr d a).defers }:Act).put o.dst undef=mr d ({ a with defers:=d0::a.defers }.put o.dst undef):=by
   rw[←put];rfl
  simp only[e];exact hn _ _ h
 ·refine Calls.mono h fun e w' he=>?_;cases e with
  |returned v=>simp only at he⊢;rw[put];exact hn _ _ he
  |panicked c=>exact hq _ _ _ he
  |outgrown=>exact lets he
 ·rename_i row args w';intro f cs;obtain⟨v,w2,hR,hs⟩:=h f cs;exact⟨v,w2,by show next' _ _;rw[put];exact hn _ _ hR,hs⟩
 ·exact hq _ _ _ h
 ·exact h.elim
theorem xcf{P:Program}{ops:Array Oper}{d:List Deferred}{Q Q':Exit→Act→World→Prop}(hq:∀x a w,Q x a w→Q' x (mr d a) w):∀{l:List Oper} {a:Act} {w:World},wpList P ops Q l a w→wpList P ops Q' l (mr d a) w
 | [],a,w,h=>hq _ _ _ h
 |o::l,a,w,h=>by
  have put:∀(a:Act) (t:Option Tmp) (v:Value),(mr d a).put t v=mr d (a.put t v):=fun a t v=>by cases t<;>rfl
  unfold wpList at h⊢;have e1:(mr d a).tmps=a.tmps:=rfl;rw[e1];split at h
  ·rename_i hw;rw[if_pos hw];rcases h with h|⟨h1,a',w',h2⟩
   ·exact .inl (xro h (fun a w hh=>xcf hq hh) hq)
   ·exact .inr ⟨h1,mr d a',w',hq _ _ _ h2⟩
  ·rename_i hw;rw[if_neg hw,put];exact xcf hq h
theorem xhl{P:Program}{f:FuncId}{args:List AV}{h h1:gz}{R:AEnd→gz→Prop}(hw:∀E,Wk E ⟨[],h⟩ ⟨[],h1⟩)(k:ACalls P f args h1 R):ACalls P f args h R:=by
 refine⟨k.1,fun c w vs hs ha=>?_⟩;obtain⟨c1,s1,o1⟩:=hw ⟨0,c,h,w⟩ c ⟨#[],[]⟩ w ⟨rfl,rfl,fun _=>.top _,hs⟩ (.refl 0 hs);have ha1:RelL c1 args vs:=⟨ha.1,fun j x v hx hv=>(ha.2 j x v hx hv).mono o1.ext⟩
 refine(k.2 c1 w vs s1.hs ha1).mono ?_;rintro e w' ⟨r,h',c',hR,hE,jd,ok'⟩;exact⟨r,h',c',hR,hE,jd,o1.trans ok'⟩
theorem EndR.mono{c c':Ctx}(hc:c.le c'){r:AEnd}{e:Ending}(h:EndR c r e):EndR c' r e:=by
 unfold EndR at h⊢;split at h
 ·exact h.mono hc
 ·exact h.mono hc
 ·exact h.elim
theorem jht{P:Program}{f:FuncId}{args:List AV}{h h1 h2:gz}{r0:AEnd}(hw:∀E,Wk E ⟨[],h1⟩ ⟨[],h2⟩)(k:ACalls P f args h fun r h'=>r=r0∧h'=h1):ACalls P f args h fun r h'=>r=r0∧h'=h2:=by
 refine⟨k.1,fun c w vs hs ha=>?_⟩;refine(k.2 c w vs hs ha).mono ?_;rintro e w' ⟨r,h',c',⟨rfl,rfl⟩,hE,jd,ok'⟩;obtain⟨c1,s1,o1⟩:=hw ⟨0,c',h',w'⟩ c' ⟨#[],[]⟩ w' ⟨rfl,rfl,fun _=>.top _,jd⟩ (.refl 0 jd);exact⟨_,_,c1,⟨rfl,rfl⟩,hE.mono o1.ext,s1.hs,ok'.trans o1⟩
theorem xgp(E:Ent)(e:Env){p j t sz:Nat}{xs:List AV}(hp:e.h[p]?=some (.cells xs))(hj:xs[j]?=some .nils) :
  Wk E e ⟨e.t,e.h.set p (.cells (xs.set j (.own e.h.length 0)))++[AObj.uarr t sz []]⟩:=by
 have h1:=jl3 E e (t:=t) (sz:=sz) hp hj;have ib:p<e.h.length:=(cq.1 hp).1
 rwa [e9 _ _ ib]at h1
theorem qwi(E:Ent)(e:Env){p j t sz:Nat}{xs:List AV}(hp:e.h[p]?=some (.cells xs))(hj:xs[j]?=some .nils) :
  Wk E e ⟨e.t,e.h.set p (.cells (xs.set j (.own e.h.length 0)))++[AObj.arr t sz []]⟩:=by
 have h1:=xgp E e (t:=t) (sz:=sz) hp hj;have h2:=zt E ⟨e.t,e.h.set p (.cells (xs.set j (.own e.h.length 0)))++[AObj.uarr t sz []]⟩ (i:=e.h.length) (t:=t) (sz:=sz) (rows:=[]) ae;refine h1.trans ?_;simpa using h2
end Go.Abs

namespace Go.Abs
theorem xtr{P:Program}{f:FuncId}{rest:List AV}{h:gz}{R:AEnd→gz→Prop}(t sz:Nat)(k:ACalls P f (.own h.length 0::rest) (h++[.uarr t sz []]) R):ACalls P f (.nils::rest) h R:=by
 refine⟨k.1,fun c w vs hs ha=>?_⟩;obtain⟨ig,s1,k1⟩:=xb4 hs (.refl 0 hs) t sz;have ha1:RelL (c.addSl h.length 0 (.slice none 0 0)) (.own h.length 0::rest) vs:=by
  refine⟨by simpa using ha.1,fun j x v hx hv=>?_⟩;cases j with
  |zero =>
   have:=xbd (ha.2 0 .nils v rfl hv);simp only[List.getElem?_cons_zero,d7]at hx;subst hx;rw[this];exact .own _ _ _ bu rfl
  |succ j =>
   simp only[qk9]at hx;exact(ha.2 (j+1) x v qj4 hv).mono ig
 refine(k.2 _ w vs s1 ha1).mono ?_;rintro e w' ⟨r,h',c',hR,hE,jd,ok'⟩;exact⟨r,h',c',hR,hE,jd,k1.trans ok'⟩
theorem xhx{P:Program}{f:FuncId}{args:List AV}{h h1 h2:gz}{x y:AV}(hw:∀E:Ent,E.h=h→Wk E ⟨[(0,x)],h1⟩ ⟨[(0,y)],h2⟩)(k:ACalls P f args h fun r h'=>r=.ret x∧h'=h1):ACalls P f args h fun r h'=>r=.ret y∧h'=h2:=by
 refine⟨k.1,fun c w vs hs ha=>?_⟩;refine(k.2 c w vs hs ha).mono ?_;rintro e w' ⟨r,h',c',⟨rfl,rfl⟩,hE,jd,ok'⟩;cases e with
 |returned v =>
  have hE:Rel c' x v:=hE;obtain⟨c1,s1,o1⟩:=hw ⟨1,c,h,w⟩ rfl c' ⟨#[v],[]⟩ w' ⟨rfl,rfl,fun i=>by
   cases i with
   |zero=>simpa[kj]using hE
   |succ i=>simp[kj];exact .top _,jd⟩ ⟨ok'.edom,ok'.ext,ok'.blk0,ok'.len,ok'.os,ok'.tape,ok'.output,ok'.size,ok'.frame,ok'.newobj,ok'.dold⟩
  have h1:Rel c1 y v:=by simpa[kj]using s1.tmps 0
  exact⟨_,_,c1,⟨rfl,rfl⟩,h1,s1.hs,⟨o1.edom,o1.ext,o1.blk0,o1.len,o1.os,o1.tape,o1.output,o1.size,o1.frame,o1.newobj,o1.dold⟩⟩
 |_=>exact hE.elim
theorem xyl{P:Program}{f:FuncId}{rest:List AV}{h:gz}{t sz:Nat}{rows:List (List AV)}{n:Nat}(hn:n=rows.length)(k:ACalls P f (.own h.length 0::rest) (h++[.uarr t sz []]) fun r h'=>r=.ret (.own h.length n)∧h'=h++[.uarr t sz rows])(hu:hUnder h.length h=true) :
  ACalls P f (.nils::rest) h fun r h'=>r=.ret (.slice rows)∧h'=h:=by
 subst hn;refine xhx (x:=.own h.length rows.length) (h1:=h++[.uarr t sz rows]) (fun E hE=>?_) (xtr t sz k);refine(zt E _ (i:=h.length) (t:=t) (sz:=sz) (rows:=rows) ae).trans ?_;refine(qzr E _).trans ?_;exact Wk.mk (by simp[hE]) qix qj5 (by simp[go_sem,AV.norm,wkT])
end Go.Abs

namespace Go.Abs
theorem jao{E:Ent}{c:Ctx}{h:gz}{w:World}(s:HSim c h w)(k:E.ok c h w){i:Nat}{o o':AObj}(hi:h[i]?=some o)(hR:ObjR c w i o')(hb:∀b,jb c i o'=some b→jb c i o=some b)(hsh:∀j,o.shares j→o'.shares j) :
  HSim c (h.set i o') w∧E.ok c (h.set i o') w:=by
 have o7:∀j ob b',(h.set i o')[j]?=some ob→jb c j ob=some b'→∃o0,h[j]?=some o0∧jb c j o0=some b'∧∀m,o0.shares m→ob.shares m:=fun j ob b' hj il=>by
  rcases l7 hj with⟨rfl,rfl⟩|⟨ii,h1⟩
  ·exact⟨_,hi,hb _ il,hsh⟩
  ·exact⟨ob,h1,il,fun _ h=>h⟩
 refine⟨⟨s.data,fun j hj=>s.dom j bf,fun j ob hj=>?_,fun j j' ob o2 b' hj oq jw li=>?_,fun j ob b' m v hj jw hD=>?_⟩,⟨k.edom,k.ext,k.blk0,bz,k.os,k.tape,k.output,k.size,k.frame,fun j ob b' hj jw=>?_,k.dold⟩⟩
 ·rcases l7 hj with⟨rfl,rfl⟩|⟨ii,h1⟩
  ·exact hR
  ·exact s.obj j ob h1
 ·obtain⟨o3,g1,wb,_⟩:=o7 j ob b' hj jw;obtain⟨o4,g2,g2',_⟩:=o7 j' o2 b' oq li;exact s.apart j j' o3 o4 b' g1 g2 wb g2'
 ·obtain⟨o3,g1,wb,g3⟩:=o7 j ob b' hj jw;exact g3 m (s.sep j o3 b' m v g1 wb hD)
 ·obtain⟨o3,g1,wb,_⟩:=o7 j ob b' hj jw;exact k.newobj j o3 b' g1 wb
theorem ji4(E:Ent)(e:Env){i t sz:Nat}{rows:List (List AV)}(hi:e.h[i]?=some (.oarr t sz rows))(hd:∀r,r∈rows→(kc e.h r).all AV.isData=true):Wk E e ⟨e.t,e.h.set i (.uarr t sz (rows.map (kc e.h)))⟩:=fun c a w s k=>by
 obtain⟨v,vs,h1,ho,hm,h2,h3,h4,h5⟩:=s.hs.obj i _ hi;obtain⟨s1,k1⟩:=jao s.hs k hi (o':=.uarr t sz (rows.map (kc e.h))) ⟨v,vs,av,ho,by simpa using hm,ca,qgq,fun r hr=>by
   obtain⟨r0,hr0,rfl⟩:=dk.1 hr;rw[qd8,ew];exact h4 r0 hr0,fun i' j r x hr hx=>by
   rw[dq]at hr;obtain⟨r0,hr0,rfl⟩:=dn.1 hr;have hxm:=c7 hx;rw[qd8,dq]at hx;obtain⟨x0,hx0,rfl⟩:=dn.1 hx;obtain⟨u,hu,jz,_⟩:=h5 i' j r0 x0 hr0 hx0;exact⟨u,hu,xb8 (dw.1 (hd r0 (c7 hr0)) _ hxm) (qep s.hs jz)⟩⟩ (fun b hb=>by simpa[jb]using hb) (fun j hj=>hj.elim)
 exact⟨c,⟨s.defers,s.size,s.tmps,s1⟩,k1⟩
theorem je4(E:Ent)(e:Env){p j t sz:Nat}{xs:List AV}(hp:e.h[p]?=some (.cells xs))(hj:xs[j]?=some .nils) :
  Wk E e ⟨e.t,e.h.set p (.cells (xs.set j (.own e.h.length 0)))++[AObj.oarr t sz []]⟩:=fun c a w s k=>by
 obtain⟨ig,s1,k1⟩:=jl9 s.hs k t sz;have ib:p<e.h.length:=(cq.1 hp).1;obtain⟨s2,k2⟩:=xj2 s1 k1 (p:=p) (xs:=xs) (xs':=xs.set j (.own e.h.length 0)) (by rw[cu ib];exact hp) ae (fun i x x' v hx mc hr=>by
  rcases l7 mc with⟨rfl,rfl⟩|⟨ii,h1⟩
  ·rw[hj]at hx;cases hx;have:=xbd hr;subst this;exact .own _ _ _ bu rfl
  ·rw[h1]at hx;cases hx;exact hr)
 rw[e9 _ _ ib]at s2 k2;exact⟨_,⟨s.defers,s.size,fun i=>(s.tmps i).mono ig,s2⟩,k2⟩
end Go.Abs

namespace Go.Abs
open Go.Proofs Go.Shelf
section
variable {P:Program} {E:Ent}
structure InsPostK(w w':World)(v v':Value)(e:TypeId)(sz n:Nat)(us:List Value):Prop where
 one:v'.oneCell'=true
 own:w'.ownsRow 0 e sz v' n us
 os:w'.os=w.os
 tape:w'.tape=w.tape
 output:w'.output=w.output
 size:w.heap.size≤w'.heap.size
 two:(∃g,v.ownBlock=some g∧v'.ownBlock=some g∧∀k,k≠g→w'.heap[k]?=w.heap[k]?)∨(v'.ownBlock=some w.heap.size∧∀k,k<w.heap.size→w'.heap[k]?=w.heap[k]?)
def xtb(P:Program)(f:FuncId)(e:TypeId)(sz:Nat):Prop:=∀(w:World) (v:Value) (n pos vb vc:Nat) (cs:List Value) (kv:Array Value) (tA:TypeId),w.ownsRow 0 e sz v n cs→(∀u∈cs,u.oneCell'=true)→pos≤n→n+1≤68719476736 →
 w.heap[vb]?=some (.cells kv tA (0,0))→kv.size=sz→(∀u∈kv.toList,u.oneCell'=true)→(∀g,v.ownBlock=some g→vb≠g) →
 Calls P f #[v,.int .i64 pos,.slice (some ⟨vb,0,none⟩) 1 vc] w fun e' w'=>∃v',e'=.returned v'∧InsPostK w w' v v' e sz (n+1) (cs.take (pos * sz)++kv.toList++cs.drop (pos * sz))
theorem jgk{c:Ctx}{rows:List (List AV)}{vs:List Value}{sz pos:Nat}{r0:List AV}{us:List Value}(hp:pos≤rows.length)(hl:vs.length=rows.length * sz)(nk:∀r,r∈rows→r.length=sz)(hr0:r0.length=sz)(uv:us.length=sz)
  (h:∀(i j:Nat) (r:List AV) (x:AV),rows[i]?=some r→r[j]?=some x→∃u,vs[i * sz+j]?=some u∧Rel c x u∧u.oneCell'=true) (h0:∀(j:Nat) (x:AV),r0[j]?=some x→∃u,us[j]?=some u∧Rel c x u∧u.oneCell'=true) :
  ∀(i j:Nat) (r:List AV) (x:AV),(rows.take pos++r0::rows.drop pos)[i]?=some r→r[j]?=some x→∃u,(vs.take (pos * sz)++us++vs.drop (pos * sz))[i * sz+j]?=some u∧Rel c x u∧u.oneCell'=true:=by
 intro i j r x hr hx;have hps:pos * sz≤rows.length * sz:=fb _ hp;have hjs:∀r':List AV,r'.length=sz→r'[j]?=some x→j<sz:=fun r' h1 h2=>by rw[←h1];exact(cq.1 h2).1
 have htl:(vs.take (pos * sz)).length=pos * sz:=qfn;by_cases h1:i<pos
 ·rw[cu am,dx,if_pos h1]at hr;have hj:=hjs r (nk r (c7 hr)) hx;have ib:(i+1) * sz≤pos * sz:=fb _ h1;rw[fi,qlb]at ib;obtain⟨u,hu,hd⟩:=h i j r x hr hx;refine⟨u,?_,hd⟩;rw[dr,cu aa,dx,if_pos aa];exact hu
 ·rw[cy am]at hr;simp only[du,gj hp]at hr;by_cases h2:i=pos
  ·subst h2;rw[ff]at hr;simp at hr;subst hr;have hj:=hjs r0 hr0 hx;obtain⟨u,hu,hd⟩:=h0 j x hx;refine⟨u,?_,hd⟩;rw[dr,cy aa,htl,show i * sz+j - i * sz=j by omega,cu aa];exact hu
  ·rw[show i - pos=(i - (pos+1))+1 by omega]at hr;simp only[qk9,ez]at hr;rw[show pos+(i - (pos+1))=i - 1 by omega]at hr;have hj:=hjs r (nk r (c7 hr)) hx;obtain⟨u,hu,hd⟩:=h (i - 1) j r x hr hx;refine⟨u,?_,hd⟩;have e1:i * sz=(i - 1) * sz+sz:=by rw[←Nat.succ_mul];congr 1;omega
   have e2:pos * sz≤(i - 1) * sz:=fb _ aa;rw[cy (by simp[htl,uv];omega),ez];rw[show pos * sz+(i * sz+j - (vs.take (pos * sz)++us).length)=(i - 1) * sz+j by simp only[cz,htl,uv];omega];exact hu
theorem jf6{c:Ctx}{e:Env}{a:Act}{w:World}(s:Sim E.N c e a w)(k:E.ok c e.h w){ops:Array Oper}{rest:List Oper}{o1 o2:Oper}{Q:Exit→Act→World→Prop}{T el sz:Nat}{x xa xb f:Operand}{d1:Nat}{y:AV}{fid:FuncId}{ts:Array TypeId}
  (hI:xtb P fid el sz) (g1:o1.guard=none) (g2:o2.guard=none) (pg:o1.dst=some d1) (tg:d1<E.N) (hd2:yw E.N o2.dst) (yh:o1.op=.buildSlice T 1 #[(0,x)]) (hop2:o2.op=.call { callee:=.value f,args:=#[xa,xb,.tmp d1],argTypes:=ts })
  (hT:ij P T=.slice el sz) (xv:ij P el≠.other) (jq:iy P el=sz) (kq:0<sz) (yx:sz≤16777216) (hx:l6 e true [x,xa,xb,f]) (hxk:e.getS x=y) (jm:y.cellsOk=true) (hyl:y.cells.length=sz)
  {i n:Nat} (hxa:e.getS xa=.own i n) {pos:Nat} (hxb:e.getS xb=.val (.int .i64 pos)) (ii:∀t,xa=.tmp t→t≠d1) (hneb:∀t,xb=.tmp t→t≠d1) (hf:f=.func fid) (hEn:qwf P fid)
  {rows:List (List AV)} (hi:e.h[i]?=some (.oarr el sz rows)) (hn:rows.length=n) (hpn:pos≤n) (jr:n+1≤68719476736)
  (ue:∀c' a' w',Sim E.N c' ((({ e with h:=e.h.set i (.oarr el sz (rows.take pos++y.cells::rows.drop pos)) }:Env).put o1.dst .top).put o2.dst (.own i (n+1))) a' w'→E.ok c' (e.h.set i (.oarr el sz (rows.take pos++y.cells::rows.drop pos))) w'→wpList P ops Q rest a' w') :
  wpList P ops Q (o1::o2::rest) a w:=by
 have jz:=qx s hx;have l8:=jz x ae;have qys:=jz xa ae;have hrxb:=jz xb ae;rw[hxk]at l8;rw[hxa]at qys;rw[hxb]at hrxb;have hvb:a.eval xb=.int .i64 pos:=hrxb.val_inv;obtain⟨mq,ox⟩:=l8.cells jm;have xci:=xrt (P:=P) hT xv jq kq yx (v:=a.eval x) (by rw[mq,hyl]) w;obtain⟨c1,qm6,s1,k1,hD1⟩:=xdk s.hs k (a.eval x).cells el;refine qcs (G:=true) qfo (fun _=>?_) (fun h=>by cases h);refine wm (w':=w.alloc (.cells (a.eval x).cells el)) (v:=.slice (some ⟨w.heap.size,0,none⟩) 1 1) (by simp only[execOp,yh,ql2,c8,e6,dh,xci,dj,dy]) ?_;have s2:Sim E.N c1 (e.put o1.dst .top) (a.put o1.dst (.slice (some ⟨w.heap.size,0,none⟩) 1 1)) (w.alloc (.cells (a.eval x).cells el)) :=
  s.put qm6 s1 (fun j hj=>by rw[pg]at hj;cases hj;exact tg) (.top _)
 obtain⟨hv,vs,mi,nk,ym⟩:=xfm s1 hi hn (qys.mono qm6);have m7:∀u,u∈vs→u.oneCell'=true:=fun u hu=>by
  obtain⟨j,hj⟩:=dv hu;have ib:j<rows.length * sz:=by have:=(cq.1 hj).1;rw[mi.1]at this;rw[hn];exact this
  have xai:j / sz<rows.length:=Nat.div_lt_of_lt_mul (by rw[qlk];exact ib);have hr:rows[j / sz]?=some rows[j / sz]:=qjs;have hrl':=nk _ (c7 hr);have hm:j % sz<sz:=Nat.mod_lt _ kq;obtain⟨u',vl,_,h1⟩:=ym (j / sz) (j % sz) _ (rows[j / sz][j % sz]'aa) hr (by simp[hrl',hm]);rw[show j / sz * sz+j % sz=j by rw[qlk];exact Nat.div_add_mod j sz,hj]at vl;cases vl;exact h1
 have honex:∀u,u∈(a.eval x).cells.toList→u.oneCell'=true:=fun u hu=>by
  obtain⟨j,hj⟩:=dv hu;have ib:j<y.cells.length:=by rw[←mq];have:=(cq.1 hj).1;simpa using this
  exact(ox j _ u qi0 bf).2
 have hkeep:(w.alloc (.cells (a.eval x).cells el)).heap[w.heap.size]?=some (.cells (a.eval x).cells el (0,0)):=heap_alloc_new _ _;have sn:∀g,(a.eval xa).ownBlock=some g→w.heap.size≠g:=fun g hg e1=>by
  have pn:c.sl i n=some (a.eval xa):=by
   cases qys with
   |data h=>cases h
   |own _ _ _ h _=>exact h
  have hb:jb c i (.oarr el sz rows)=some g:=by simp[jb,hn,pn,hg]
  have:=(s.hs.obj i _ hi).lt hb;omega
 have qpw:=hI _ _ n pos w.heap.size 1 vs _ el mi m7 hpn jr hkeep (by rw[mq,hyl]) honex sn;have heva:(a.put o1.dst (.slice (some ⟨w.heap.size,0,none⟩) 1 1)).eval xa=a.eval xa:=by
  rw[pg];cases xa with
  |tmp t=>have:=ii t rfl;simp[Act.put,Act.eval,gt (Ne.symm this),ed]
  |_=>rfl
 have hevb:(a.put o1.dst (.slice (some ⟨w.heap.size,0,none⟩) 1 1)).eval xb=.int .i64 pos:=by
  rw[←hvb,pg];cases xb with
  |tmp t=>have:=hneb t rfl;simp[Act.put,Act.eval,gt (Ne.symm this),ed]
  |_=>rfl
 have u6:d1<a.tmps.size:=qke;have hevd:(a.put o1.dst (.slice (some ⟨w.heap.size,0,none⟩) 1 1)).eval (.tmp d1)=.slice (some ⟨w.heap.size,0,none⟩) 1 1:=by
  rw[pg];simp[Act.put,Act.eval,u6]
 refine qcs (G:=true) qj3 (fun _=>?_) (fun h=>by cases h);unfold Oper.wp;rw[qxz (us:=#[]) (vs:=#[]) hop2 (by rw[hf];rfl) hEn];simp only[qma,qmm,ql2,c8,e6,heva,hevb,hevd];refine qpw.mono ?_;rintro en w' ⟨v',rfl,zj⟩;have qt9:(rows.take pos++y.cells::rows.drop pos).length=n+1:=am;obtain⟨c2,qu5,s3,k3,hr3⟩:=xv8 (E:=E) s1 k1 (rows':=rows.take pos++y.cells::rows.drop pos) hi (by rw[hn];exact hv) aa aa (fun r hr=>by
   rcases dt.1 hr with hr|hr
   ·exact nk r (gc hr)
   ·rcases cw.1 hr with rfl|hr
    ·exact hyl
    ·exact nk r (qla hr)) (jgk aa (by rw[mi.1,hn]) nk hyl (by simp[mq,hyl]) ym (us:=(a.eval x).cells.toList) (fun j z hz=>by
    have ib:j<(a.eval x).cells.size:=by rw[mq];exact(cq.1 hz).1
    obtain⟨h3,h4⟩:=ox j z (a.eval x).cells[j] hz bp;exact⟨_,bp,h3.mono qm6,h4⟩)) zj.one (by rw[qt9];exact zj.own) zj.os zj.tape zj.output zj.size zj.two
 rw[qt9]at hr3;refine ue c2 _ w' ?_ k3;have:=s2.put (x:=.own i (n+1)) (d:=o2.dst) qu5 s3 (qxy hd2) hr3;rw[pg]at this⊢;exact this
end
end Go.Abs

namespace Go.Abs
open Go.Proofs
section
variable {P:Program} {E:Ent}
theorem xhy{c:Ctx}{h:gz}{w w':World}(hs:HSim c h w)(k:E.ok c h w){i e sz g cap:Nat}{rows rows':List (List AV)}{us:List Value}(hi:h[i]?=some (.uarr e sz rows))(hv:c.sl i rows.length=some (.slice (some ⟨g,0,none⟩) rows.length cap))
  (hl:rows'.length=rows.length) (ny:∀r,r∈rows'→r.length=sz) (mi:w'.ownsRow 0 e sz (.slice (some ⟨g,0,none⟩) rows.length cap) rows.length us)
  (qpe:∀(i' j:Nat) (r:List AV) (x:AV),rows'[i']?=some r→r[j]?=some x→∃u,us[i' * sz+j]?=some u∧DRel c.D x u) (hos:w'.os=w.os) (ht:w'.tape=w.tape) (hou:w'.output=w.output) (jq:w.heap.size≤w'.heap.size)
  (o9:∀b,b≠g→b<w.heap.size→w'.heap[b]?=w.heap[b]?):HSim c (h.set i (.uarr e sz rows')) w'∧E.ok c (h.set i (.uarr e sz rows')) w':=by
 obtain⟨v0,vs,h1,ly,v8,h2,h3,h4,h5⟩:=hs.obj i _ hi;rw[hv]at h1;cases h1;have px:jb c i (.uarr e sz rows)=some g:=qhp;have qya:jb c i (.uarr e sz rows')=some g:=by simp[jb,hl,hv,Value.ownBlock]
 have o7:∀j ob b',(h.set i (.uarr e sz rows'))[j]?=some ob→jb c j ob=some b'→∃o0,h[j]?=some o0∧jb c j o0=some b':=fun j ob b' hj il=>by
  rcases l7 hj with⟨rfl,rfl⟩|⟨ii,h1⟩
  ·exact⟨_,hi,qio⟩
  ·exact⟨ob,h1,il⟩
 refine⟨⟨fun b j v hD=>?_,fun j hj=>hs.dom j bf,fun j ob hj=>?_,fun j j' ob o2 b' hj oq jw li=>?_,fun j ob b' m v hj jw hD=>?_⟩,⟨k.edom,k.ext,k.blk0,bz,hos.trans k.os,ht.trans k.tape,hou.trans k.output,d9 k.size jq,fun b hb iz=>?_,fun j ob b' hj jw=>?_,k.dold⟩⟩
 ·have hb:b≠g:=fun e2=>by
   subst e2;exact hs.sep i _ b j v hi px hD
  have mw:=hs.data b j v hD;rw[World.cell?_of_block (w:=w) (o9 b hb (World.block_lt_of_cell? w ⟨b,j,none⟩ mw))];exact mw
 ·rcases l7 hj with⟨rfl,rfl⟩|⟨ii,h6⟩
  ·exact⟨_,us,by rw[hl];exact hv,rfl,fun m hm=>v8 m (by rw[←hl];exact hm),by rw[hl];exact mi,by rw[hl];exact h3,ny,qpe⟩
  ·refine(hs.obj j ob h6).keep (.refl c) (fun _=>rfl) fun b' il=>o9 b' (fun e2=>ii ?_) ((hs.obj j ob h6).lt il);subst e2;exact hs.apart j i ob _ b' h6 hi il px
 ·obtain⟨o3,g1,wb⟩:=o7 j ob b' hj jw;obtain⟨o4,g2,g2'⟩:=o7 j' o2 b' oq li;exact hs.apart j j' o3 o4 b' g1 g2 wb g2'
 ·rcases l7 hj with⟨rfl,rfl⟩|⟨ii,h6⟩
  ·rw[qya]at jw;have h9:(AObj.uarr e sz rows).shares m:=hs.sep j (.uarr e sz rows) b' m v hi (by rw[px,jw]) hD;exact h9
  ·exact hs.sep j ob b' m v h6 jw hD
 ·have ii:b≠g:=fun e2=>by
   subst e2;rcases k.newobj i _ b hi px with⟨o0,h6,h7⟩|h6
   ·exact iz i o0 h6 h7
   ·omega
  rw[o9 b ii (qlo hb k.size)];exact k.frame b hb iz
 ·obtain⟨o3,g1,wb⟩:=o7 j ob b' hj jw;exact k.newobj j o3 b' g1 wb
end
end Go.Abs

namespace Go.Abs
section
variable {P:Program} {E:Ent}
theorem jj1{c:Ctx}{h:gz}{w:World}(hs:HSim c h w)(k:E.ok c h w){i e sz b cap:Nat}{rows rows':List (List AV)}{us:List Value}{cur:Array Value}(hi:h[i]?=some (.uarr e sz rows))(hv:c.sl i rows.length=some (.slice (some ⟨b,0,none⟩) rows.length cap))
  (hl:rows'.length=rows.length) (ny:∀r,r∈rows'→r.length=sz) (uv:us.length=rows.length * sz) (hg:w.heap[b]?=some (.cells cur e (0,0))) (nz:rows.length≤cap) (pz:cap≤maxLen) (ma:cur.size=cap * sz)
  (v8:∀m,rows.length<m→c.sl i m=none) (jr:rows.length≤68719476736) (qpe:∀(i' j:Nat) (r:List AV) (x:AV),rows'[i']?=some r→r[j]?=some x→∃u,us[i' * sz+j]?=some u∧DRel c.D x u) :
  HSim c (h.set i (.uarr e sz rows')) (w.setRow b (us++cur.toList.drop us.length).toArray)∧E.ok c (h.set i (.uarr e sz rows')) (w.setRow b (us++cur.toList.drop us.length).toArray):=by
 have hcs':rows.length * sz≤cur.size:=qgc;have o9:∀g,g≠b→(w.setRow b (us++cur.toList.drop us.length).toArray).heap[g]?=w.heap[g]?:=fun g hg=>setRow_other w b g _ hg;have u6:(w.setRow b (us++cur.toList.drop us.length).toArray).heap.size=w.heap.size:=qgw;have px:jb c i (.uarr e sz rows)=some b:=qhp;have qya:jb c i (.uarr e sz rows')=some b:=by simp[jb,hl,hv,Value.ownBlock]
 have o7:∀j ob b',(h.set i (.uarr e sz rows'))[j]?=some ob→jb c j ob=some b'→∃o0,h[j]?=some o0∧jb c j o0=some b':=fun j ob b' hj il=>by
  rcases l7 hj with⟨rfl,rfl⟩|⟨ii,h1⟩
  ·exact⟨_,hi,qio⟩
  ·exact⟨ob,h1,il⟩
 have sw:ObjR c (w.setRow b (us++cur.toList.drop us.length).toArray) i (.uarr e sz rows'):=by
  refine⟨.slice (some ⟨b,0,none⟩) rows.length cap,us,by rw[hl];exact hv,rfl,fun m hm=>v8 m (by rw[←hl];exact hm),⟨by rw[hl];exact uv,.inr ⟨b,cap,_,by rw[hl],di _,setRow_heap w b cur _ e (0,0) hg,by rw[hl];exact nz,pz,?_,?_⟩⟩,by rw[hl];exact jr,ny,qpe⟩
  ·simp[uv];omega
  ·rw[hl,←uv];simp
 refine⟨⟨fun g j v hD=>?_,fun j hj=>hs.dom j bf,fun j ob hj=>?_,fun j j' ob o2 b' hj oq jw li=>?_,fun j ob b' m v hj jw hD=>?_⟩,⟨k.edom,k.ext,k.blk0,bz,k.os,k.tape,k.output,qkf,fun g jf iz=>?_,fun j ob b' hj jw=>?_,k.dold⟩⟩
 ·have jf:g≠b:=fun e2=>by
   subst e2;exact hs.sep i _ g j v hi px hD
  rw[World.cell?_of_block (w:=w) (o9 g jf)];exact hs.data g j v hD
 ·rcases l7 hj with⟨rfl,rfl⟩|⟨ii,h6⟩
  ·exact sw
  ·refine(hs.obj j ob h6).keep (.refl c) (fun _=>rfl) fun b' il=>o9 b' fun e2=>ii ?_;subst e2;exact hs.apart j i ob _ b' h6 hi il px
 ·obtain⟨o3,g1,wb⟩:=o7 j ob b' hj jw;obtain⟨o4,g2,g2'⟩:=o7 j' o2 b' oq li;exact hs.apart j j' o3 o4 b' g1 g2 wb g2'
 ·rcases l7 hj with⟨rfl,rfl⟩|⟨ii,h6⟩
  ·have qvw:jb c j (.uarr e sz rows')=some b':=jw;rw[qya]at qvw;have h9:(AObj.uarr e sz rows).shares m:=hs.sep j (.uarr e sz rows) b' m v hi (by rw[px,qvw]) hD;exact h9
  ·exact hs.sep j ob b' m v h6 jw hD
 ·have ii:g≠b:=fun e2=>by
   subst e2;rcases k.newobj i _ g hi px with⟨o0,h6,h7⟩|h6
   ·exact iz i o0 h6 h7
   ·omega
  rw[o9 g ii];exact k.frame g jf iz
 ·obtain⟨o3,g1,wb⟩:=o7 j ob b' hj jw;exact k.newobj j o3 b' g1 wb
theorem jgy{c:Ctx}{e:Env}{a:Act}{w:World}(s:Sim E.N c e a w)(k:E.ok c e.h w){ops:Array Oper}{rest:List Oper}{o1:Oper}{Q:Exit→Act→World→Prop}{T T' el:TypeId}{sz i n d1:Nat}{x y:Operand}{rows rows2:List (List AV)}
  (g1:o1.guard=none) (pg:o1.dst=some d1) (tg:d1<E.N) (yh:o1.op=.call { callee:=.builtin .copy,args:=#[x,y],argTypes:=#[T,T'] })
  (hT:ij P T=.slice el sz) (xv:ij P el≠.other) (pr:iy P el=sz) (kq:0<sz) (ix:l6 e true [x,y]) (hx:e.getS x=.own i n) (hy:e.getS y=.slice rows2) (hi:e.h[i]?=some (.uarr el sz rows)) (hn:rows.length=n) (pq:rows2.length=n) (ny:∀r,r∈rows2→r.length=sz)
  (ue:∀a' w',Sim E.N c (({ e with h:=e.h.set i (.uarr el sz rows2) }:Env).put o1.dst (.val (.int .i64 n))) a' w'→E.ok c (e.h.set i (.uarr el sz rows2)) w'→wpList P ops Q rest a' w') :
  wpList P ops Q (o1::rest) a w:=by
 obtain⟨iT,dT,zT,_,r8,_,vz,_⟩:=lj hT ae;obtain⟨rfl,ie,lx,wv⟩:=xx vz;have l8:=qx s ix x ae;have hry:=qx s ix y ae;rw[hx]at l8;rw[hy]at hry;have hd:=Rel.slice_inv hry;obtain⟨ad,cap2,hye,qut⟩:=xhw s.hs ny kq hd;obtain⟨v,vs,h1,ly,v8,h2,h3,h4,h5⟩:=s.hs.obj i _ hi;have hxv:a.eval x=v:=by
  cases l8 with
  |data h=>cases h
  |own i n v' h' ho =>
   rw[hn]at h1;rw[h1]at h';cases h';rfl
 have hlu:(Builtin.lenOf (a.eval y)).run P w=.ok rows2.length w:=by rw[hye];simp[Builtin.lenOf]
 by_cases h0:n=0
 ·have hr2:rows2=[]:=fk aa;have hr1:rows=[]:=fk aa;subst hr2;subst hr1;subst h0;have jx:∀ty,(Builtin.copy_ #[T,T'] ty #[a.eval x,a.eval y]).run P w=.ok (goInt 0) w:=fun ty=>by
   rw[hxv,hye];rcases h2.2 with⟨rfl,_⟩|⟨g,cp,cur,rfl,_,hg,nz,pz,ma,u5⟩
   ·cases ad<;>simp[Builtin.copy_,run_underlying r8,Builtin.lenOf,Builtin.firstCells,sizeOf,typeInfo,lx,loadCells,loadCellsFrom]
   ·cases ad<;>simp[Builtin.copy_,run_underlying r8,Builtin.lenOf,Builtin.firstCells,sizeOf,typeInfo,lx,loadCells,loadCellsFrom,storeCells]
  refine Proofs.wpList_copy_runI w g1 x y T T' yh _ _ rfl rfl (jx _) ?_;have ss:e.h.set i (.uarr el sz [])=e.h:=qdc hi;rw[ss]at ue;refine ue _ _ ?_ k;exact s.put (.refl c) s.hs (fun j hj=>by rw[pg]at hj;cases hj;exact tg) (.val _)
 ·have ii:rows2≠[]:=fun e2=>by rw[e2]at pq;simp at pq;omega
  rcases qut with e2|⟨b2,off2,rfl,us,uv,mw,m7,qpe⟩
  ·exact(ii e2).elim
  rcases h2.2 with⟨rfl,e3⟩|⟨g,cp,cur,rfl,_,hg,nz,pz,ma,u5⟩
  ·omega
  have hcs':rows.length * sz≤cur.size:=qgc;have hul2:us.length=rows.length * sz:=by rw[uv,pq,hn]
  have mj:=run_storeCells_at P g 0 el us 0 cur w hg aa m7;simp only[d6,db,ql3,ej]at mj;have hfc:=run_firstCells_some (P:=P) w ie.size n ⟨b2,off2,none⟩ rows2.length cap2 us (by rw[wv,uv,pq]) (fun j u hu=>by rw[xk];exact mw j u hu);rw[pq]at hfc;have jx:∀ty,(Builtin.copy_ #[T,T'] ty #[a.eval x,a.eval y]).run P w=.ok (goInt n) (w.setRow g (us++cur.toList.drop us.length).toArray):=fun ty=>by
   rw[hxv,hye];simp[Builtin.copy_,run_underlying r8,Builtin.lenOf,sizeOf,typeInfo,lx,pq,hn,hfc,mj]
  refine Proofs.wpList_copy_runI w g1 x y T T' yh _ _ rfl rfl (jx _) ?_;obtain⟨s1,k1⟩:=jj1 (E:=E) s.hs k (rows':=rows2) (us:=us) hi h1 aa ny hul2 hg nz pz ma v8 h3 qpe;refine ue _ _ ?_ k1;exact s.put (.refl c) s1 (fun j hj=>by rw[pg]at hj;cases hj;exact tg) (.val _)
end
end Go.Abs
