/- Part 12 of a proof. -/
import Derived.Test.YtolejdhnnchfpaaGreatDoorQ11
set_option linter.all false
namespace Go.Abs
theorem xcu{E:Ent}{c:Ctx}{h:g9}{w:World}(s:HSim c h w)(k:E.ok c h w){p:Nat}{xs xs':List AV}(hp:h[p]?=some (.cells xs))(hl:xs'.length=xs.length)
  (hr:∀(j:Nat) (x x':AV) (v:Value),xs[j]?=some x->xs'[j]?=some x'->Rel c x v->Rel c x' v):HSim c (h.set p (.cells xs')) w/\E.ok c (h.set p (.cells xs')) w:=by
 have o9:∀j o b',(h.set p (.cells xs'))[j]?=some o->je c j o=some b'->∃o0,h[j]?=some o0/\je c j o0=some b':=λj o b' hj iq=>by
  rcases m7 hj with⟨rfl,rfl⟩|⟨it,h1⟩
  .exact⟨_,hp,iq⟩
  .grind
 refine⟨⟨s.data,λj hj=>s.dom j af,λj o hj=>?_,λj j' o o' b hj ny hb iq=>?_,λj o b m v hj hb hD=>?_⟩,⟨k.edom,k.ext,k.blk0,bs,k.os,k.tape,k.output,k.size,k.frame,λj o b hj hb=>?_,k.dold⟩⟩
 .rcases m7 hj with⟨rfl,rfl⟩|⟨it,h1⟩
  .obtain⟨b,vs,T,g1,g2,g3,g4⟩:=s.obj j _ hp;refine⟨b,vs,T,g1,g2,by rw[g3,hl],λi x v hx hv=>?_⟩;have il:i<xs.length:=af;have h5:=g4 i xs[i] v bc hv;exact⟨hr i _ x v bc hx h5.1,h5.2⟩
  .exact s.obj j o h1
 .obtain⟨o1,g1,g2⟩:=o9 j o b hj hb;obtain⟨o2,g3,g4⟩:=o9 j' o' b ny iq;exact s.apart j j' o1 o2 b g1 g3 g2 g4
 .rcases m7 hj with⟨rfl,rfl⟩|⟨it,h1⟩
  .have:=s.sep j (.cells xs) b m v hp hb hD;exact this
  .exact s.sep j o b m v h1 hb hD
 .obtain⟨o1,g1,g2⟩:=o9 j o b hj hb;exact k.newobj j o1 b g1 g2
theorem qyh{c:Ctx}{v:Value}(h:Rel c .nils v):v=.slice none 0 0:=by
 cases h with
 |data h=>cases h
 |nils=>rfl
theorem xvz(E:Ent)(e:Env){p j t sz:Nat}{xs:List AV}(hp:e.h[p]?=some (.cells xs))(hj:xs[j]?=some .nils) :
  Wk E e ⟨e.t,(e.h++[AObj.uarr t sz []]).set p (.cells (xs.set j (.own e.h.length 0)))⟩:=λc a w s k=>by
 obtain⟨ij,s1,k1⟩:=xdp s.hs k t sz;have il:p<e.h.length:=(cm.1 hp).1;obtain⟨s2,k2⟩:=xcu s1 k1 (p:=p) (xs:=xs) (xs':=xs.set j (.own e.h.length 0)) af ac (λi x x' v hx nw hr=>by
  rcases m7 nw with⟨rfl,rfl⟩|⟨it,h1⟩
  .rw[hj]at hx;cases hx;have:=qyh hr;subst this;exact .own _ _ _ bj rfl
  .rw[h1]at hx;cases hx;exact hr)
 exact⟨_,⟨s.defers,s.size,λi=>(s.tmps i).mono ij,s2⟩,k2⟩
section
mutual
def AV.bd:AV->Prop
 | .slice rows=>rows.length<=68719476736/\qv8 rows
 | .agg xs| .tuple xs=>zi xs
 | .iface _ v=>v.bd
 | .val (.string s)=>s.size<=68719476736
 |_=>True
def zi:List AV->Prop
 | []=>True
 |x::xs=>x.bd/\zi xs
def qv8:List (List AV)->Prop
 | []=>True
 |x::xs=>zi x/\qv8 xs
end
theorem qwo:∀{xs:List AV},zi xs↔∀x,x∈xs->x.bd
 | []=>by simp[zi]
 |x::xs=>by simp[zi,qwo (xs:=xs)]
theorem qvw:∀{xs:List (List AV)},qv8 xs↔∀x,x∈xs->zi x
 | []=>by simp[qv8]
 |x::xs=>by simp[qv8,qvw (xs:=xs)]
theorem DRel.bd{D:Nat->Nat->Option Value}{x:AV}{v:Value}(h:DRel D x v):x.bd:=by
 induction h with
 |val v h hs =>
  cases v with
  |string s=>simpa[AV.bd,qkt]using hs
  |_=>trivial
 |nil=>exact⟨dq _,trivial⟩
 |empty a=>exact⟨dq _,trivial⟩
 |slice rows b off cap sz g jx hB hc h1 h2 ih =>
  refine⟨hB,?_⟩;rw[qvw];intro r hr;rw[qwo];intro x hx;obtain⟨i,hi⟩:=da hr;obtain⟨j,hj⟩:=da hx;exact ih i j r x hi hj
theorem Rel.bd{c:Ctx}{x:AV}{v:Value}(h:Rel c x v):x.bd:=by
 induction h with
 |data h=>exact h.bd
 |agg xs vs hl ho h ih|tuple xs vs hl h ih =>
  show zi xs;rw[qwo];intro x hx;obtain⟨j,hj⟩:=da hx;have il:j<vs.size:=af;exact ih j x vs[j] hj bc
 |iface t x v h ih=>exact ih
 |val v hs =>
  cases v with
  |string s=>simpa[AV.bd,qkt]using hs
  |_=>trivial
 |_=>trivial
def AObj.bd:AObj->Prop
 | .cells xs=>zi xs
 | .map es=>∀p,p∈es->p.1.bd/\p.2.bd
 | .arr _ _ rows| .uarr _ _ rows=>rows.length<=68719476736/\qv8 rows
 |_=>True
theorem HSim.bd{c:Ctx}{h:g9}{w:World}(s:HSim c h w):∀o,o∈h->o.bd:=by
 intro o ho;obtain⟨i,hi⟩:=da ho;have k:=s.obj i o hi;cases o with
 |none=>trivial
 |iter=>trivial
 |raw=>trivial
 |oarr=>trivial
 |cells xs =>
  obtain⟨b,vs,T,h1,h2,h3,h4⟩:=k;show zi xs;rw[qwo];intro x hx;obtain⟨j,hj⟩:=da hx;have il:j<vs.size:=af;exact(h4 j x vs[j] hj bc).1.bd
 |map es =>
  obtain⟨b,kj,clock,h1,h2,h3,h4,h5⟩:=k;intro p hp;obtain⟨j,hj⟩:=da hp;have il:j<kj.size:=af;have:=h4 j p.1 p.2 kj[j] hj bc;exact⟨this.1.bd,this.2.bd⟩
 |arr e sz rows =>
  obtain⟨v,vs,h1,h2,h3,h4,h5,h6,h7,h8⟩:=k;refine⟨h5,?_⟩;rw[qvw];intro r hr;rw[qwo];intro x hx;obtain⟨i',ke⟩:=da hr;obtain⟨j,hj⟩:=da hx;obtain⟨u,_,hd⟩:=h7 i' j r x ke hj;exact hd.bd
 |uarr e sz rows =>
  obtain⟨v,vs,h1,h2,h3,h4,h5,h6,h7⟩:=k;refine⟨h5,?_⟩;rw[qvw];intro r hr;rw[qwo];intro x hx;obtain⟨i',ke⟩:=da hr;obtain⟨j,hj⟩:=da hx;obtain⟨u,_,hd⟩:=h7 i' j r x ke hj;exact hd.bd
section
variable {P:Program} {E:Ent} {Q:AExit->Env->Prop} {e:Env}
theorem xg5{f:FuncId}{args:List AV}{h:g9}{R:AEnd->g9->Prop}(H:zi args->(∀o,o∈h->o.bd)->lj h.length args=true->ACalls P f args h R)(hf:qtr P f):ACalls P f args h R :=
 ⟨hf,λc w vs hs ha=>(H (by
  rw[qwo];intro x hx;obtain⟨j,hj⟩:=da hx;have il:j<vs.size:=by rw[ha.1];exact(cm.1 hj).1
  exact(ha.2 j x vs[j] hj bc).bd) hs.bd (by
  rw[qb0];intro x hx;obtain⟨j,hj⟩:=da hx;have il:j<vs.size:=by rw[ha.1];exact(cm.1 hj).1
  exact(ha.2 j x vs[j] hj bc).under hs.dom)).2 c w vs hs ha⟩
theorem re{f:FuncId}{fn:Func}{code:Code}{args:List AV}{h:g9}{R:AEnd->g9->Prop}(hf:P.funcs[f]?=some fn)(hb:fn.body=some code)(wb:(fn.name == "runtime.NumGoroutine")=false)(hN:args.length<=fn.ntmps)
  (body:∀E:Ent,E.N=fn.ntmps->E.h=h->hUnder h.length h=true->zi args->(∀o,o∈h->o.bd)->lj h.length args=true->AWp P E code (qwv P fn.results.toList h.length R) ⟨qdl 0 args,h⟩):ACalls P f args h R :=
 xg5 (λkr nm hb3=>xil hf hb wb hN λE h1 h2 h3=>body E h1 h2 h3 kr nm hb3) ⟨fn,hf,qht,wb⟩
theorem lz{f:FuncId}{fn:Func}{code:Code}{args:List AV}{r:AV}(hf:P.funcs[f]?=some fn)(hb:fn.body=some code)(wb:(fn.name == "runtime.NumGoroutine")=false)(hN:args.length<=fn.ntmps)(hr:r.under 0=true)
  (body:∀(E:Ent) (h:g9),E.N=fn.ntmps->E.h=h->hUnder h.length h=true->zi args->AWp P E code (xen P fn.results.toList r h) ⟨qdl 0 args,h⟩):APure P f args r:=λh =>
 xg5 (λkr _ _=>xyr hf hb wb hN hr (λE h1 h2 h3 h4=>body E h1 h2 h3 h4 kr) h) ⟨fn,hf,qht,wb⟩
end
theorem tj{h:g9}(hu:hUnder h.length h=true)(l:g9)(k:Nat):hUnder (h.length+k) (h++l)=hUnder (h.length+k) l:=by
 rw[qx,uk aa hu,dh]
theorem qxt{a b:g9}:∀{h:g9},hwk (h++a) (h++b)↔hwk a b
 | []=>Iff.rfl
 |o::h=>by
  simp only[qix,hwk,qxt (h:=h)];exact⟨λx=>x.2,λx=>⟨.refl o,x⟩⟩
attribute [go_sem] hUnder AObj.under hwk ObjWk qxt
theorem qq1(E:Ent)(e:Env)(i t sz:Nat)(hi:ji e.t i=.nils):Wk E e ⟨(i,.own e.h.length 0)::e.t,e.h++[.arr t sz []]⟩:=by
 have h1:Wk E e ⟨(i,.own e.h.length 0)::e.t,e.h++[.uarr t sz []]⟩:=λc a w s k=>by
  obtain⟨ij,s1,k1⟩:=xdp s.hs k t sz;refine⟨_,⟨s.defers,s.size,λj=>?_,s1⟩,k1⟩;simp only[ji];by_cases hj:i=j
  .subst hj;simp only[beq_self_eq_true,cond_true];have:=s.tmps i;rw[hi]at this;rw[qyh this];exact .own _ _ _ bj rfl
  .have:(i == j)=false:=qfs;simp only[this,cond_false];exact(s.tmps j).mono ij
 refine h1.trans ?_;have:=qdt E ⟨(i,.own e.h.length 0)::e.t,e.h++[.uarr t sz []]⟩ (i:=e.h.length) (t:=t) (sz:=sz) (rows:=[]) ac;simpa using this
def qzo(h:g9)(t:List (Nat×AV)):List (Nat×AV):=t.map λp=>(p.1,p.2.norm h)
theorem xs5(h:g9)(i:Nat):∀t:List (Nat×AV),ji (qzo h t) i=(ji t i).norm h
 | []=>rfl
 |(j,x)::t=>by
  simp only[qzo,dj,ji];cases j == i with
  |true=>rfl
  |false=>exact xs5 h i t
theorem quy(E:Ent)(e:Env):Wk E e ⟨qzo e.h e.t,e.h⟩:=λc a w s k =>
 ⟨c,⟨s.defers,s.size,λi=>by
  show Rel c (ji (qzo e.h e.t) i) _;rw[xs5];exact qdw s.hs (s.tmps i),s.hs⟩,k⟩
attribute [go_sem] qzo
@[simp] theorem jnt{α:Type}(f:α->List AV)(l:List α):(AV.slice (l.map f)).bd↔l.length<=68719476736/\∀x,x∈l->zi (f x):=by
 simp[AV.bd,qvw]
end
section
variable {P:Program}
theorem kl{f:FuncId}{fn:Func}{code:Code}{args:List AV}{r:AV}{N:Nat}(hf:P.funcs[f]?=some fn)(hn:fn.ntmps=N)(hb:fn.body=some code)(wb:(fn.name == "runtime.NumGoroutine")=false)(hl:decide (args.length<=N)=true)(hr:r.under 0=true)
  (body:∀(E:Ent) (h:g9),E.N=N->E.h=h->hUnder h.length h=true->zi args->wpC P E code (xen P fn.results.toList r h) ⟨qdl 0 args,h⟩):APure P f args r:=by
 subst hn;exact lz hf hb wb (of_decide_eq_true hl) hr λE h h1 h2 h3 h4=>jo _ _ _ (body E h h1 h2 h3 h4)
theorem mh{f:FuncId}{fn:Func}{code:Code}{args:List AV}{h:g9}{R:AEnd->g9->Prop}{N:Nat}(hf:P.funcs[f]?=some fn)(hn:fn.ntmps=N)(hb:fn.body=some code)(wb:(fn.name == "runtime.NumGoroutine")=false)(hl:decide (args.length<=N)=true)
  (body:∀E:Ent,E.N=N->E.h=h->hUnder h.length h=true->zi args->(∀o,o∈h->o.bd)->lj h.length args=true->wpC P E code (qwv P fn.results.toList h.length R) ⟨qdl 0 args,h⟩):ACalls P f args h R:=by
 subst hn;exact re hf hb wb (of_decide_eq_true hl) λE h1 h2 h3 h4 h5 h6=>jo _ _ _ (body E h1 h2 h3 h4 h5 h6)
theorem mj{E:Ent}{e e1:Env}(d:wkT e1.h.length e.t e1.t:=by simp[go_sem])(a:E.h.length<=e1.h.length:=by simp[hh])(b:hwk e.h e1.h:=by simp[go_sem])(c:hUnder e1.h.length e1.h=true:=by simp[hu,tj hu,go_sem]):Wk E e e1:=Wk.mk a b c d
end
section
variable {P:Program} {E:Ent}
theorem jfh{l:List Oper}{e0:Env}{R:List DR}(d:DRegW l R)(hq:∀r,r∈R->∃rd,r.k=.quiet rd){X:Nat->Bool}(ki:qku l X){c:Ctx}{a:Act}{w:World}(inv:DInv E e0 R X c a w){i:Nat}{o:Oper}(hi:l[i]?=some o)(pn:X i=false)
  (rk:∀e,e∈o.after->Region.binds .any e=true->X e.on=true) (hg:gB ((l.take i).map (·.dst)) (jb e0 (R.take i)) o.guard=some true) (hd:zj E.N o.dst) {r:AV} (hr:R[i]?=some ⟨o.dst,qb o.guard true r,.quiet none⟩) {h':g9} {ok:Prop} {Qa:AExit->Env->Prop}
  (hc:qy P (qmg (jb e0 (R.take i)) o) o.op (λr1 h1=>ok/\r1=r/\h1=h') λv h1=>Qa (.panic v) ⟨[],h1⟩) :
  wpOp P l.toArray (qle E Qa) i (λa' w'=>ok/\∃c',DInv E ⟨e0.t,h'⟩ R (λj=>if j=i then true else X j) c' a' w') a w:=by
 have hslots:=jiv d ki inv.tmps hi pn rk;have hs:HSim c e0.h w:=by have:=inv.hs;rwa [qzw hq]at this
 have kp:E.ok c e0.h w:=by have:=inv.ok;rwa [qzw hq]at this
 have hhe:(jb e0 (R.take i)).h=e0.h:=by grind[qxl,xiq]
 have px:(l.toArray)[i]?=some o:=af;have hsim:Sim E.N c (qmg (jb e0 (R.take i)) o) a w:=⟨inv.defers,inv.size,λt=>by
  simp only[qmg,xjl];split
  .grind
  .exact .top _,by simp only[qmg,hhe];exact hs⟩
 have qxv:Region.wanted o (yielded l.toArray a.tmps)=true:=xl2 (l:=l) ac (i:=i) (λj want hg=>d.ok.guard i o j want hi hg) (λt ht=>hslots t (List.mem_append_right _ ht)) hg;unfold wpOp;simp only[px];rw[if_pos qxv];refine .inl (xsu (E:=⟨E.N,c,e0.h,w⟩) hsim (by grind[qmg,Ent.ok.refl]) hc (λv h1 c' w' u hR ij jg kb zb=>?_) (λv h1 c' w' u hR ij jg kb zb=>?_))
 .obtain⟨hok1,rfl,rfl⟩:=hR;have zb:Rel c' (qb o.guard true v) u:=by
   unfold qb;split
   .exact zb
   .exact .opt _ _ _ (λ_=>zb) (λh=>by cases h)
  refine⟨hok1,c',qhd,qgt,λt=>?_,by rw[qzw hq];exact jg,by rw[qzw hq];exact kp.trans kb,λj rj xs hj ya _=>?_,λrj hrj i' off cs ya=>?_⟩
  .have h1:=qxx (X:=X) (t:=t) (k:=0) (x:=ji e0.t t) hr (λj r' jf hd hn=>by
    obtain⟨o',kc,sn,_⟩:=d.dst jf;exact d.ok.uniq i o j o' hi kc hn af)
   simp only[cz]at h1;show Rel c' (ur _ t 0 R (ji e0.t t)) _;rw[h1];cases ww:o.dst with
   |none =>
    rw[if_neg ac];exact(inv.tmps t).mono ij
   |some dd =>
    have il:dd<a.tmps.size:=by rw[inv.size];rw[ww]at hd;exact hd
    by_cases hdt:dd=t
    .subst hdt;rw[if_pos rfl];simpa[Act.put,il]using zb
    .rw[if_neg af];have:=(inv.tmps t).mono ij;simpa[Act.put,dz,gg hdt]using this
  .obtain⟨rd,hk⟩:=hq rj (cv hj);rw[hk]at ya;cases ya
  .obtain⟨j,h1,_⟩:=qt3 hrj;obtain⟨rd,hk⟩:=hq rj (cv h1);rw[hk]at ya;cases ya
 .exact⟨.panic v,⟨[],h1⟩,c',hR,zb,⟨inv.defers,inv.size,λ_=>.top _,jg⟩,kp.trans kb⟩
structure DRegK(P:Program)(E:Ent)(l:List Oper)(e0:Env)(R:List DR)(jc:Nat)(h2:g9)(ok:Prop)(Qa:AExit->Env->Prop):Prop where
 w:DRegW l R
 lt:jc<l.length
 quiet:∀r,r∈R->∃rd,r.k=.quiet rd
 before:∀(k:Nat) (o:Oper),l[k]?=some o->k≠jc->sh (Region.before l.toArray) jc k=false->ux P E.N ((l.take k).map (·.dst)) o (jb ⟨e0.t,e0.h⟩ (R.take k)) (λr=>R[k]?=some r)
 after:ok->∀(k:Nat) (o:Oper),l[k]?=some o->k≠jc->sh (Region.before l.toArray) k jc=false->ux P E.N ((l.take k).map (·.dst)) o (jb ⟨e0.t,h2⟩ (R.take k)) (λr=>R[k]?=some r)
 eff:∀o,l[jc]?=some o->∃r:AV,gB ((l.take jc).map (·.dst)) (jb ⟨e0.t,e0.h⟩ (R.take jc)) o.guard=some true/\zj E.N o.dst/\R[jc]?=some ⟨o.dst,qb o.guard true r,.quiet none⟩/\qy P (qmg (jb ⟨e0.t,e0.h⟩ (R.take jc)) o) o.op (λr1 h1=>ok/\r1=r/\h1=h2) λv h1=>Qa (.panic v) ⟨[],h1⟩
theorem xoz{l:List Oper}{e0:Env}{R:List DR}{jc:Nat}{h2:g9}{ok:Prop}{Qa:AExit->Env->Prop}(d:DRegK P E l e0 R jc h2 ok Qa){X:Nat->Bool}(hj:X jc=true)(iz:∀j,j<l.length->X j=true){c:Ctx}{a:Act}{w:World}(inv:DInv E ⟨e0.t,bif X jc then h2 else e0.h⟩ R X c a w) :
  Sim E.N c ⟨(jb e0 R).t,h2⟩ a w/\E.ok c h2 w:=by
 have h1:∀j r,R[j]?=some r->X (0+j)=true:=λj r hr=>by rw[cz];exact iz j (by rw[<-d.w.len];exact(cm.1 hr).1)
 have hs:=inv.hs;have hk:=inv.ok;rw[qzw d.quiet,hj]at hs hk;refine⟨⟨inv.defers,inv.size,λt=>?_,hs⟩,hk⟩;have:=inv.tmps t;rw[qcu (Y:=λ_=>true) λj r hr _=>h1 j r hr]at this;rw[qx2];exact this
theorem xvn{l:List Oper}{e0:Env}{R:List DR}{jc:Nat}{h2:g9}{ok:Prop}{Qa:AExit->Env->Prop}(d:DRegK P E l e0 R jc h2 ok Qa){X:Nat->Bool}(hX1:X jc=true->ok)(ki:qku l X){c:Ctx}{a:Act}{w:World}(inv:DInv E ⟨e0.t,bif X jc then h2 else e0.h⟩ R X c a w){i:Nat}{o:Oper}(hi:l[i]?=some o)(pn:X i=false)
  (rk:∀e,e∈o.after->Region.binds .any e=true->X e.on=true) :
  wpOp P l.toArray (qle E Qa) i (λa' w'=>((if jc=i then true else X jc)=true->ok)/\∃c',DInv E ⟨e0.t,bif (if jc=i then true else X jc)then h2 else e0.h⟩ R (λj=>if j=i then true else X j) c' a' w') a w:=by
 by_cases hij:i=jc
 .subst hij;obtain⟨r,g2,g3,g6,g7⟩:=d.eff o hi;rw[pn]at inv;rw[if_pos rfl];refine wpOp_mono ?_ (jfh (e0:=⟨e0.t,e0.h⟩) d.w d.quiet ki inv hi pn rk g2 g3 g6 g7);rintro a' w' ⟨h1,h2⟩;exact⟨λ_=>h1,h2⟩
 .rw[if_neg (Ne.symm hij)];cases hX:X jc with
  |true =>
   rw[hX]at inv;have kf:sh (Region.before l.toArray) i jc=false:=by
    cases hb:sh (Region.before l.toArray) i jc with
    |false=>rfl
    |true =>
     have kx:l[jc]?=some (l[jc]'(d.lt)):=ac;have:=qly ki jc i _ kx (ki jc _ hX kx) hb;rw[pn]at this;cases this
   have jm:E.h.length<=h2.length:=qh7;refine wpOp_mono ?_ (xde (Q:=qle E Qa) (e0:=⟨e0.t,h2⟩) d.w jm ki inv hi pn rk (d.after (hX1 hX) i o hi hij kf));exact λa' w' h=>⟨λ_=>hX1 hX,h⟩
  |false =>
   rw[hX]at inv;have kf:sh (Region.before l.toArray) jc i=false:=by grind[hX,qly]
   have jm:E.h.length<=e0.h.length:=qh7;refine wpOp_mono ?_ (xde (Q:=qle E Qa) (e0:=⟨e0.t,e0.h⟩) d.w jm ki inv hi pn rk (d.before i o hi hij kf));exact λa' w' h=>⟨λh'=>(by cases h'),h⟩
theorem xym{l:List Oper}{m jc:Nat}{h2:g9}(hm:m<=l.length)(t:TailOk m l){e0:Env}{R:List DR}{ok:Prop}{Qa:AExit->Env->Prop}(d:DRegK P E (l.take m) e0 R jc h2 ok Qa)
  (hQ:ok->∀c a w,Sim E.N c ⟨(jb e0 R).t,h2⟩ a w->E.ok c h2 w->wpList P l.toArray (qle E Qa) (l.drop m) a w) :
  ∀(kh:Nat) (L:Array Bool),L.size=l.length->(∀j,m<=j->L.getD j false=false)->L.toList.count false<=kh->qku l (λj=>L.getD j false)->∀(c:Ctx) (a:Act) (w:World),(L.getD jc false=true->ok)->DInv E ⟨e0.t,bif L.getD jc false then h2 else e0.h⟩ R (λj=>L.getD j false) c a w->wpAny P .any l.toArray (qle E Qa) kh L a w:=by
 intro kh;have jm:(l.take m).length=m:=az;have qq3:∀(L:Array Bool),(∀j,m<=j->L.getD j false=false)->(∀j,j<m->L.getD j false=true)->∀j,j<l.length->(L.getD j false=true↔j<m):=λL nl iz j _=>by grind
 have qr8:∀(k:Nat) (L:Array Bool),L.size=l.length->(∀j,k<=j->L.getD j false=false)->k<=l.length->l.length - k<=L.toList.count false:=λk L hL hk hkl=>by
  have h1:(L.toList.drop k).count false=l.length - k:=by
   have h2:(L.toList.drop k).count false=(L.toList.drop k).length:=List.count_eq_length.2 λb hb=>by
    obtain⟨j,hj⟩:=da hb;rw[ew]at hj;have:=hk (k+j) aa;simp only[dz]at this;rw[<-fb,hj]at this;simpa using this.symm
   rw[h2];simp[hL]
  have h3:(L.toList.drop k).Sublist L.toList:=qka _ _;have:=h3.count_le false;omega
 induction kh with
 |zero =>
  intro L hL nl hc ki c a w kp inv;by_cases iz:∀j,j<m->L.getD j false=true
  .have hj1:=iz jc (by have:=d.lt;omega);obtain⟨s,k⟩:=xoz d aa (λj hj=>iz j aa) inv;have:=qr8 m L hL nl hm;exact qyb t 0 m L (cn _) hm hL (qq3 L nl iz) aa a w (hQ (kp hj1) c a w s k)
  .obtain⟨i,h1,h2,_⟩:=quv iz;have:=xei (L:=L) (i:=i) aa h2;omega
 |succ kh ih =>
  intro L hL nl hc ki c a w kp inv;by_cases iz:∀j,j<m->L.getD j false=true
  .have hj1:=iz jc (by have:=d.lt;omega);obtain⟨s,k⟩:=xoz d aa (λj hj=>iz j aa) inv;have:=qr8 m L hL nl hm;exact qyb t (kh+1) m L (cn _) hm hL (qq3 L nl iz) aa a w (hQ (kp hj1) c a w s k)
  .obtain⟨i0,g1,g2,g3⟩:=quv iz;refine⟨λhr=>?_,λi hi=>?_⟩
   .have:=xbt t.after hL (i:=i0) aa g2 g3;rw[hr]at this;cases this
   .obtain⟨o,h1,h2,h3⟩:=qy4 hi;have il:i<L.size:=af;have hLi:L.getD i false=false:=af;have him:i<m:=by
     rcases ei i m with h4|h4
     .exact h4
     .have:=qly ki i i0 o h1 h3 (t.ord i i0 h4 aa aa);rw[show L.getD i0 false=false from g2]at this;cases this
    have mz:(l.take m)[i]?=some o:=af;have qvv:qku (l.take m) λj=>L.getD j false:=λj o' hj kc e he hb=>by
     have hjm:j<m:=af;rw[dt,if_pos hjm]at kc;exact ki j o' hj kc e he hb
    refine xc9 him (λo' j want kc hg=>?_) (wpOp_mono ?_ (xvn d (X:=λj=>L.getD j false) kp qvv inv mz hLi h3))
    .rw[h1]at kc;cases kc;have:=d.w.ok.guard i o j want mz hg;omega
    .rintro a' w' ⟨qrc,c',inv'⟩;have hjf:(if jc=i then true else L.getD jc false)=(L.setIfInBounds i true).getD jc false:=congrFun (qrf il) jc;rw[qrf il,hjf]at inv';rw[hjf]at qrc;refine ih _ af (λj hj=>?_) ?_ (xff il h1 h3 ki) c' a' w' qrc inv'
     .have hf:=congrFun (qrf il) j;rw[<-hf,if_neg aa];exact nl j hj
     .grind[xb6]
theorem xql{id:Nat}(m jc:Nat){l:List Oper}{Q:AExit->Env->Prop}{e:Env}{R:List DR}{h2:g9}{ok:Prop}(hm:P.follows .mixedOrders=true)(se:m<=l.length)(hT:qro m l=true)(d:DRegK P E (l.take m) e R jc h2 ok Q)
  (hQ:ok->qks P E.N Q ((l.take m).map (·.dst)) (l.drop m) ⟨(jb e R).t,h2⟩):AWp P E (.region id l.toArray true) Q e:=λc a w s k=>by
 refine wp_region_any hm ?_;have jg:HSim c e.h { w with drawn:=w.drawn+1 }:=s.hs.ext (λ_ _=>rfl) (.refl c) (λ_ _=>rfl) (λ_ _ _ h=>.inl h) s.hs.dom;have kb:E.ok c e.h { w with drawn:=w.drawn+1 }:=k.ext' s.hs (λ_ _=>rfl) (.refl c) (λ_=>rfl) rfl rfl rfl (cn _) (λ_ _ _ h=>.inl h);have u4:(λ_=>false)=λj=>(Array.replicate l.toArray.size false).getD j false:=by
  funext j;simp[dz,qj1];split<;>rfl
 have h0:=congrFun u4 jc;refine xym se (xbx hT) d (λkp c' a' w' s' k'=>?_) _ _ ac (λj _=>(congrFun u4 j).symm) ?_ ?_ c a _ ?_ ?_
 .exact qcq (l.drop m) (l.take m) _ ac (hQ kp) c' a' w' s' k'
 .simp
 .intro j o hj;rw[<-u4]at hj;cases hj
 .grind
 .rw[<-h0,<-u4];exact xd8 (e0:=⟨e.t,e.h⟩) ⟨s.defers,s.size,s.tmps,jg⟩ kb
def DR.isQ(r:DR):Bool:=match r.k with
 | .quiet _=>true
 |_=>false
theorem xfn{R:List DR}:R.all DR.isQ=true↔∀r,r∈R->∃rd,r.k=.quiet rd:=by grind[dr,DR.isQ]
theorem xjp{r:DR}(h:∃rd,r.k=.quiet rd)(e:Env)(h':g9):r.next ⟨e.t,h'⟩=⟨(r.next e).t,h'⟩/\(r.next e).h=e.h:=by
 obtain⟨rd,hk⟩:=h;unfold DR.next
 simp only[hk];cases r.dst<;>exact⟨rfl,rfl⟩
theorem qcx:∀{R:List DR},(∀r,r∈R->∃rd,r.k=.quiet rd)->∀(e:Env) (h':g9),jb ⟨e.t,h'⟩ R=⟨(jb e R).t,h'⟩/\(jb e R).h=e.h
 | [],_,_,_=>⟨rfl,rfl⟩
 |r::R,h,e,h'=>by
  have h1:=xjp (h r ac) e h';have h2:=qcx (R:=R) (λr' hr=>h r' (List.mem_cons_of_mem _ hr)) (r.next e) h';simp only[jb];rw[h1.1];exact⟨h2.1,by rw[h2.2,h1.2]⟩
def xgk(P:Program)(fid:FuncId)(args:List AV)(e:Env)(KA:AV->g9->Prop)(KP:AV->g9->Prop)(_:Tag KA)(_:Tag KP):Prop :=
 ∃(ok:Prop) (r:AV) (h2:g9),ACalls P fid args e.h (λx h'=>match x with
  | .ret v=>ok/\v=r/\h'=h2
  | .panic v=>KP v h')/\(ok->KA r h2)
theorem qyx{P:Program}{fid:FuncId}{args:List AV}{e:Env}{KA:AV->g9->Prop}{KP:AV->g9->Prop}{t1:Tag KA}{t2:Tag KP}{r:AV}{h2:g9}(h:ACalls P fid args e.h λx h'=>x=.ret r/\h'=h2)(k:KA r h2):xgk P fid args e KA KP t1 t2 :=
 ⟨True,r,h2,h.mono ac,λ_=>k⟩
theorem xxn{P:Program}{fid:FuncId}{args:List AV}{e:Env}{KA:AV->g9->Prop}{KP:AV->g9->Prop}{t1:Tag KA}{t2:Tag KP}{v:AV}{h2:g9}(h:ACalls P fid args e.h λx h'=>x=.panic v/\h'=h2)(k:KP v h2):xgk P fid args e KA KP t1 t2 :=
 ⟨False,.top,h2,h.mono af,λh=>h.elim⟩
def xho(f:g9->Prop)(_:Tag f)(h:g9):Prop:=f h
def qxj(P:Program)(N:Nat)(u:List Nat)(KC:List (Option Tmp)->List Oper->Env->List DR->(g9->Prop)->Prop):Nat->Nat->List (Option Tmp)->List Oper->Env->List DR->(g9->Prop)->Prop
 | 0,_,ds,l,e,iw,pd=>KC ds l e iw pd
 |_+1,_,_,[],_,_,_=>False
 |n+1,k,ds,o::l,e,iw,pd=>qv5 P N ds o e iw λe iw r=>qxj P N u KC n (k+1) (ds++[o.dst]) l (r.next e) (iw++[r])
   (if k∈u then xho (λh2=>pd h2/\qv5 P N ds o ⟨e.t,h2⟩ iw λ_ _ r'=>r'=r) ⟨⟩else pd)
def xgi(P:Program)(N:Nat)(Q:AExit->Env->Prop)(tl:List Oper)(ds:List (Option Tmp))(l:List Oper)(e:Env)(iw:List DR)(pd:g9->Prop):Prop :=
 match l with
 | []=>False
 |o::l =>
  match o.op with
  | .call { callee:=.value f,args,.. } =>
   gB ds e o.guard=some true/\zj N o.dst/\iw.all DR.isQ=true/\me e true (f::args.toList)/\match e.getS f with
   | .fn (.func fid) first caps=>xgk P fid (ko e.h (first++args.toList.map e.getS++caps)) e
     (λr h2=>pd h2/\qu9 P N (ds++[o.dst]) l ((⟨o.dst,qb o.guard true r,.quiet none⟩:DR).next ⟨e.t,h2⟩) (iw++[⟨o.dst,qb o.guard true r,.quiet none⟩]) λR e1=>R.all DR.isQ=true/\qks P N Q (ds++o.dst::l.map (·.dst)) tl ⟨e1.t,h2⟩)
     (λv h2=>Q (.panic v) ⟨[],h2⟩) ⟨⟩ ⟨⟩
   |_=>False
  |_=>False
def xdw(m jc:Nat)(u:List Nat)(l:List Oper):Bool :=
 let b:=Region.before (l.take m).toArray
 decide (m<=l.length)&&decide (jc<m)&&qs4 (l.take m)&&qro m l &&
 ((List.range m).all λk=>k == jc||(decide (k<jc)&&(sh b k jc||u.contains k))||(decide (jc<k)&&sh b jc k))
theorem xj8{P:Program}{N:Nat}{u:List Nat}{KC:List (Option Tmp)->List Oper->Env->List DR->(g9->Prop)->Prop}:∀{n k:Nat} {ds:List (Option Tmp)} {l:List Oper} {e:Env} {iw:List DR} {pd:g9->Prop},qxj P N u KC n k ds l e iw pd ->
  ∃(R:List DR) (pd':g9->Prop),R.length=n/\n<=l.length/\(∀(j:Nat) (o:Oper),j<n->l[j]?=some o->ux P N (ds++(l.take j).map (·.dst)) o (jb e (R.take j)) (λr=>R[j]?=some r)) /\
   KC (ds++(l.take n).map (·.dst)) (l.drop n) (jb e R) (iw++R) pd' /\
   ∀h2,pd' h2->pd h2/\∀(j:Nat) (o:Oper),j<n->k+j∈u->l[j]?=some o->ux P N (ds++(l.take j).map (·.dst)) o ⟨(jb e (R.take j)).t,h2⟩ (λr=>R[j]?=some r)
 | 0,k,ds,l,e,iw,pd,h=>⟨[],pd,rfl,dq _,λj o hj=>by omega,by simpa[jb,qxj]using h,λh2 hp=>⟨hp,λj o hj=>by omega⟩⟩
 |n+1,k,ds,[],e,iw,pd,h=>h.elim
 |n+1,k,ds,o::l,e,iw,pd,h=>by
  obtain⟨r,h1,h2⟩:=xj1 (xf9 (K:=λe iw r=>qxj P N u KC n (k+1) (ds++[o.dst]) l (r.next e) (iw++[r]) (if k∈u then xho (λh2=>pd h2/\qv5 P N ds o ⟨e.t,h2⟩ iw λ_ _ r'=>r'=r) ⟨⟩else pd)) h);obtain⟨R,pd',hl,hn,hs,hK,hp⟩:=xj8 h2;refine⟨r::R,pd',qgk,by simpa using hn,λj o' hj ho=>?_,by simpa[jb]using hK,λh2 hq=>?_⟩
  .cases j with
   |zero =>
    simp at ho;subst ho;simpa[jb,eq_comm]using h1
   |succ j =>
    have:=hs j o' aa af;simpa[jb,dn]using this
  .obtain⟨h3,h4⟩:=hp h2 hq;refine⟨?_,λj o' hj hu ho=>?_⟩
   .split at h3
    .exact h3.1
    .exact h3
   .cases j with
    |zero =>
     simp at ho;subst ho;rw[ea]at hu;rw[if_pos hu]at h3;have:=xf9 h3.2;simpa[jb,eq_comm]using this
    |succ j =>
     have:=h4 j o' aa af af;simpa[jb,dn]using this
theorem xi5{e:Env}{o:Oper}{x:Operand}(h:x∈o.op.operands.toList):(qmg e o).get x=e.get x:=by
 cases x with
 |tmp t =>
  simp only[Env.get,qmg,xjl];rw[if_pos (by grind[tmpsOf])]
 |_=>rfl
theorem xg4{e:Env}{o:Oper}:∀{l:List Operand},(∀x,x∈l->x∈o.op.operands.toList)->me e true l->me (qmg e o) true l
 | [],_,_=>trivial
 |x::l,h,k=>⟨by rw[xi5 (h x ac)];exact k.1,xg4 (λy hy=>h y ck) k.2⟩
theorem qw5{id:Nat}(m jc:Nat)(u:List Nat){l:List Oper}{Q:AExit->Env->Prop}{e:Env}(hm:P.follows .mixedOrders=true)(hB:xdw m jc u l=true)
  (h:qxj P E.N u (xgi P E.N Q (l.drop m)) jc 0 [] (l.take m) e [] λ_=>True):AWp P E (.region id l.toArray true) Q e:=by
 simp only[xdw,cw,decide_eq_true_eq]at hB;obtain⟨⟨⟨⟨se,hjm⟩,hdB⟩,hT⟩,hO⟩:=hB;have kp:=qx3 hdB;obtain⟨R1,pd,hR1,hn,sj,hK,hp⟩:=xj8 h;simp only[ff]at sj hK hp;have jm:(l.take m).length=m:=az;have hd:(l.take m).drop jc=(l.take m)[jc]'aa::(l.take m).drop (jc+1):=qi5 aa;generalize hoc:(l.take m)[jc]'aa=oc at hd;have hoc':(l.take m)[jc]?=some oc:=af;rw[hd]at hK;simp only[xgi]at hK;split at hK
 rotate_left
 .grind
 rename_i f args ats lf;obtain⟨hg,ww,hQ1,iz,hK⟩:=hK;have hq1:=xfn.1 hQ1;split at hK
 rotate_left
 .grind
 rename_i fid first caps hf
 obtain⟨ok,r,h2,hc,hKA⟩:=hK;have y8:∀k,k<m->k≠jc->(k<jc/\(sh (Region.before (l.take m).toArray) k jc=true\/k∈u))\/(jc<k/\sh (Region.before (l.take m).toArray) jc k=true):=λk hk it=>by grind
 have vn:oc.op.operands.toList=f::args.toList:=by
  rw[lf];simp[Op.operands,Call.operands]
 -- the results behind the call
 have hR2:∃R2:List DR,R2.length=((l.take m).drop (jc+1)).length/\(∀r',r'∈R2->∃rd,r'.k=.quiet rd)/\(∀(j:Nat) (r':DR),R2[j]?=some r'->∃o,((l.take m).drop (jc+1))[j]?=some o/\r'.dst=o.dst) /\
   (ok->pd h2/\(∀(j:Nat) (o:Oper),((l.take m).drop (jc+1))[j]?=some o->ux P E.N (((l.take m).take jc).map (·.dst)++[oc.dst]++(((l.take m).drop (jc+1)).take j).map (·.dst)) o (jb ((⟨oc.dst,qb oc.guard true r,.quiet none⟩:DR).next ⟨(jb e R1).t,h2⟩) (R2.take j)) (λr'=>R2[j]?=some r')) /\
    qks P E.N Q ((l.take m).map (·.dst)) (l.drop m) ⟨(jb ((⟨oc.dst,qb oc.guard true r,.quiet none⟩:DR).next ⟨(jb e R1).t,h2⟩) R2).t,h2⟩):=by
  by_cases hk:ok
  .obtain⟨h3,h4⟩:=hKA hk;obtain⟨R2,g1,g2,g3⟩:=qvt (qyk h4);obtain⟨g4,g5⟩:=g3;rw[List.all_append,List.all_append,cw,cw]at g4;refine⟨R2,g1,xfn.1 g4.2,λj r' hj=>?_,λ_=>⟨h3,g2,?_⟩⟩
   .have il:j<((l.take m).drop (jc+1)).length:=by rw[<-g1];exact(cm.1 hj).1
    obtain⟨_,r'',k1,k2,_⟩:=qwl (g2 j _ (cu il));rw[hj]at k2;cases k2;exact⟨_,cu il,k1⟩
   .grind[gn]
  .refine⟨((l.take m).drop (jc+1)).map λo=>⟨o.dst,.top,.quiet none⟩,ac,λr' hr=>?_,λj r' hj=>?_,λh=>(hk h).elim⟩
   .grind
   .grind
 obtain⟨R2,hl2,hq2,hd2,qvy⟩:=hR2;generalize hrc:(⟨oc.dst,qb oc.guard true r,.quiet none⟩:DR)=rc at qvy;have qwt:∀k,k<jc->(R1++rc::R2)[k]?=R1[k]?:=λk hk=>co aa;have hgetc:(R1++rc::R2)[jc]?=some rc:=af;have qxm:∀k,jc<k->(R1++rc::R2)[k]?=R2[k - (jc+1)]?:=λk hk=>by
  rw[cx aa,hR1,show k - jc=(k - (jc+1))+1 by omega,qi6]
 have qvc:∀k,k<=jc->(R1++rc::R2).take k=R1.take k:=λk hk=>by rw[qkb aa]
 have xf1:∀k,jc<k->(R1++rc::R2).take k=R1++rc::R2.take (k - (jc+1)):=λk hk=>by
  rw[List.take_append,fw aa,hR1,show k - jc=(k - (jc+1))+1 by omega,qi9]
 have hqR:∀r',r'∈R1++rc::R2->∃rd,r'.k=.quiet rd:=λr' hr=>by
  rcases dw.1 hr with hr|hr
  .simp_all
  .rcases c0.1 hr with rfl|hr
   .grind
   .simp_all
 have xbi:∀k,jc<k->((l.take m).drop (jc+1))[k - (jc+1)]?=(l.take m)[k]?:=λk hk=>by
  rw[ew,show jc+1+(k - (jc+1))=k by omega]
 have dW:DRegW (l.take m) (R1++rc::R2):=by
  refine⟨kp,by simp[hR1,hl2];omega,λ{k r'} hr=>?_,λk s r' r'' i off cs _ _ hs hk=>?_⟩
  .have il:k<m:=by have:=(cm.1 hr).1;simp[hR1,hl2]at this;omega
   obtain⟨rd,hk⟩:=hqR r' (cv hr);have kf:(∃i off cs,r'.k=.store i off cs)->∀o:Oper,qrp o.op=true:=af;rcases qjq k jc with h1|h1|h1
   .rw[qwt k h1]at hr;have qu0:k<(l.take m).length:=aa;obtain⟨_,r'',k1,k2,_⟩:=qwl (sj k _ h1 (cu qu0));rw[hr]at k2;cases k2;exact⟨_,cu qu0,k1,λh=>kf h _⟩
   .grind
   .rw[qxm k h1]at hr;obtain⟨o,k1,k2⟩:=hd2 _ _ hr;rw[xbi k h1]at k1;exact⟨o,k1,k2,λh=>kf h _⟩
  .obtain⟨rd,h1⟩:=hqR r'' (cv hs);rw[h1]at hk;cases hk
 have d:DRegK P E (l.take m) e (R1++rc::R2) jc h2 ok Q:=by
  refine⟨dW,aa,hqR,λk o ho it kf=>?_,λhk k o ho it kf=>?_,λo ho=>?_⟩
  .have il:k<m:=by have:=(cm.1 ho).1;omega
   rcases y8 k il it with⟨h1,_⟩|⟨_,h1⟩
   .rw[qvc k aa,qwt k h1];exact sj k o h1 ho
   .grind
  .have il:k<m:=by have:=(cm.1 ho).1;omega
   obtain⟨g1,g2,_⟩:=qvy hk;rcases y8 k il it with⟨h1,h3|h3⟩|⟨h1,_⟩
   .grind
   .have:=(hp h2 g1).2 k o h1 (by rwa [cz]) ho;rw[qvc k aa,qwt k h1,(qcx (R:=R1.take k) (λr' hr=>hq1 r' af) e h2).1];exact this
   .have:=g2 (k - (jc+1)) o af;have e1:((l.take m).take jc).map (·.dst)++[oc.dst]++(((l.take m).drop (jc+1)).take (k - (jc+1))).map (·.dst)=((l.take m).take k).map (·.dst):=by
     rw[show(l.take m).take k=(l.take m).take (jc+(1+(k - (jc+1))))by congr 1;omega,List.take_add,hd,eg,Nat.add_comm 1,qi9];simp
    rw[e1]at this;rw[xf1 k h1,qxm k h1];have e2:jb ⟨e.t,h2⟩ (R1++rc::R2.take (k - (jc+1)))=jb (rc.next ⟨(jb e R1).t,h2⟩) (R2.take (k - (jc+1))):=by
     have:∀(A B:List DR) (x:Env),jb x (A++B)=jb (jb x A) B:=by
      intro A
      induction A with
      |nil=>intro B x;rfl
      |cons a A ih=>intro B x;exact ih B _
     rw[this,(qcx (R:=R1) (λr' hr=>hq1 r' aa) e h2).1];rfl
    rw[e2];exact this
  .rw[hoc']at ho;cases ho;refine⟨r,by rw[qvc jc (cn _),fw (l:=R1) aa];exact hg,ww,by rw[hgetc,<-hrc],?_⟩;rw[qvc jc (cn _),fw aa];show qy P (qmg (jb e R1) oc) oc.op _ _;have hh:=(qcx (R:=R1) (λr' hr=>hq1 r' aa) e e.h).2;have nl:∀x,x∈f::args.toList->(qmg (jb e R1) oc).getS x=(jb e R1).getS x:=λx hx=>by
    unfold Env.getS;rw[xi5 af]
   have hmap:args.toList.map (qmg (jb e R1) oc).getS=args.toList.map (jb e R1).getS:=qjr λx hx=>nl x bu;have xem:=xg4 (o:=oc) (λx hx=>by rw[vn];exact hx) iz;rw[lf];refine⟨xem,?_⟩;rw[nl f ac,hf,hmap];exact hc
 refine xql m jc hm se hT d λhk=>?_;obtain⟨_,_,g3⟩:=qvy hk;have:∀(A B:List DR) (x:Env),jb x (A++B)=jb (jb x A) B:=by
  intro A
  induction A with
  |nil=>intro B x;rfl
  |cons a A ih=>intro B x;exact ih B _
 have e3:(jb e (R1++rc::R2)).t=(jb (rc.next ⟨(jb e R1).t,h2⟩) R2).t:=by
  rw[this];show(jb (rc.next (jb e R1)) R2).t=_;have q:=xjp (r:=rc) af (jb e R1) h2;rw[q.1,(qcx hq2 (rc.next (jb e R1)) h2).1]
 rw[e3];exact g3
end
attribute [go_sem] qxj xgi xho DR.isQ
end Go.Abs
