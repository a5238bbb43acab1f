/- Part 15 of a proof. -/
import Derived.Recover
import Derived.Shelf.Spec.SlicesInsert
import Derived.Test.YtolejdhnnchfpaaGreatDoorQ14
set_option linter.all false

namespace Go.Abs
section
variable {P:Program} {E:Ent}
theorem jkl{fn:Func}{n0:Nat}{R:AEnd->g9->Prop}{x':AExit}{e':Env}{c':Ctx}{ex:Exit}{a':Act}{w':World}(hn0:E.h.length<=n0)(hq:qwv P fn.results.toList n0 R x' e')(hx:XR c' x' ex)
  (s:Sim E.N c' e' a' w') (k:E.ok c' e'.h w') :
  (∃v r h' c2,(ex=.ret\/ex=.normal)/\(results fn a'.tmps).run P w'=.ok v w'/\R (.ret r) h'/\Rel c2 r v/\HSim c2 h' w'/\E.ok c2 h' w') \/
  (∃u r h' c2,ex=.panic [⟨u,false,false⟩]/\R (.panic r) h'/\Rel c2 r u/\HSim c2 h' w'/\E.ok c2 h' w'):=by
 have fin:∀e'':Exit,(e''=.ret\/e''=.normal)->qvf P fn.results.toList n0 R e'->∃v r h' c2,(e''=.ret\/e''=.normal)/\(results fn a'.tmps).run P w'=.ok v w'/\R (.ret r) h'/\Rel c2 r v/\HSim c2 h' w'/\E.ok c2 h' w':=by
  rintro e'' he ⟨iu,r',h',h1,h2,h3,h4,h5,hR⟩;obtain⟨v,hv,hr⟩:=xel (P:=P) s fn iu;obtain⟨c2,g1,g2,g3⟩:=finish s k hr h1 h2 h3 aa h5;exact⟨v,r',h',c2,he,hv,hR,g3,g1,g2⟩
 cases x' with
 |normal=>cases ex<;>simp only[XR]at hx;exact .inl (fin _ (.inr rfl) hq)
 |exit i=>exact hq.elim
 |ret=>cases ex<;>simp only[XR]at hx;exact .inl (fin _ (.inl rfl) hq)
 |panic x =>
  cases ex with
  |panic ch =>
   cases ch with
   |nil=>simp[XR]at hx
   |cons p l =>
    cases l with
    |nil =>
     obtain⟨u,r,g⟩:=p;cases r<;>cases g<;>simp only[XR]at hx;obtain⟨v',h',h1,h2,h3,h4,h5,hR⟩:=hq;obtain⟨c2,g1,g2,g3⟩:=finish s k hx h1 h2 h3 aa h5;exact .inr ⟨u,v',h',c2,rfl,hR,g3,g1,g2⟩
    |cons=>simp[XR]at hx
  |_=>simp[XR]at hx
theorem xtz{fn:Func}{code:Code}{e:Env}{a:Act}{c:Ctx}{w:World}(s:Sim E.N c e a w)(k:E.ok c e.h w){H:g9}{n0:Nat}(hn0:E.h.length<=n0)
  (body:AWp P E code (qwv P fn.results.toList n0 λr h'=>r=.ret (.tuple [])/\h'=H) e) {c₀:Frame} {U:FrameMode} {cs:List Frame} :
  code.wpS P (bodyPostS P fn c₀ cs λen u' w'=>(∃v,en=.returned v)/\u'=U/\∃c',HSim c' H w'/\E.ok c' H w') a ({ c₀ with mode:=U }::cs) w:=by
 refine wpS_of_wp (wp_mono (body c a w s k) ?_);rintro ex a' w' ⟨x',e',c',hq,hx,jg,ok'⟩;rcases jkl hn0 hq hx jg ok' with⟨v,r,h',c2,he,hv,⟨_,rfl⟩,_,g1,g2⟩|⟨u,r,h',c2,he,⟨h0,_⟩,_⟩
 .rcases he with rfl|rfl
  .exact⟨jg.defers,U,rfl,v,hv,⟨v,rfl⟩,rfl,c2,g1,g2⟩
  .exact⟨jg.defers,U,rfl,v,hv,⟨v,rfl⟩,rfl,c2,g1,g2⟩
 .cases h0
end
end Go.Abs
namespace Go.Abs
theorem qh{n:Nat}{o:AObj}{i:Nat}{h:g9}(hu:hUnder n h=true)(ho:o.under n=true):hUnder n (h.set i o)=true:=by grind[qb1]
theorem xlf{h:g9}{n:Nat}{o o':AObj}(hn:n<=h.length):hwk ((h.set n o).set (n+1) o') (h.take n):=by
 have e:((h.set n o).set (n+1) o')=h.take n++(((h.set n o).set (n+1) o').drop n):=by
  rw[show h.take n=((h.set n o).set (n+1) o').take n from ?_,gn];apply fh;intro i;simp only[dt];split
  .grind
  .rfl
 rw[e];exact hwk.app0 _
def nb(d:List Deferred)(a:Act):Act:={ a with defers:=a.defers++d }
theorem xuj{P:Program}{o:Oper}{d:List Deferred}{a:Act}{next next':Act->World->Prop}{Q Q':Exit->Act->World->Prop}{r:Result Next}(h:o.upon P a next Q r)
  (hn:∀a w,next a w->next' (nb d a) w) (hq:∀x a w,Q x a w->Q' x (nb d a) w):o.upon P (nb d a) next' Q' r:=by
 have put:∀(a:Act) (t:Option Tmp) (v:Value),(nb d a).put t v=nb d (a.put t v):=λa t v=>by cases t<;>rfl
 have lets:LetsOut Q->LetsOut Q':=λ⟨a,w,h⟩=>⟨nb d a,w,hq _ _ _ h⟩
 unfold Oper.upon at h|-;split at h
 .grind
 .grind
 .rename_i d0 w';have e:({ nb d a with defers:=d0::(nb d a).defers }:Act).put o.dst undef=nb d ({ a with defers:=d0::a.defers }.put o.dst undef):=by
   rw[<-put];rfl
  simp only[e];exact hn _ _ h
 .refine Calls.mono h λe w' he=>?_;cases e with
  |returned v=>simp only at he|-;rw[put];exact hn _ _ he
  |panicked c=>exact hq _ _ _ he
  |outgrown=>exact lets he
 .rename_i row args w';intro f cs;obtain⟨v,w2,hR,hs⟩:=h f cs;exact⟨v,w2,by show next' _ _;rw[put];exact hn _ _ hR,hs⟩
 .grind
 .omega
theorem xbz{P:Program}{ops:Array Oper}{d:List Deferred}{Q Q':Exit->Act->World->Prop}(hq:∀x a w,Q x a w->Q' x (nb d a) w):∀{l:List Oper} {a:Act} {w:World},wpList P ops Q l a w->wpList P ops Q' l (nb d a) w
 | [],a,w,h=>hq _ _ _ h
 |o::l,a,w,h=>by
  have put:∀(a:Act) (t:Option Tmp) (v:Value),(nb d a).put t v=nb d (a.put t v):=λa t v=>by cases t<;>rfl
  unfold wpList at h|-;have e1:(nb d a).tmps=a.tmps:=rfl;rw[e1];split at h
  .rename_i hw;rw[if_pos hw];rcases h with h|⟨h1,a',w',h2⟩
   .exact .inl (xuj h (λa w hh=>xbz hq hh) hq)
   .exact .inr ⟨h1,nb d a',w',hq _ _ _ h2⟩
  .rename_i hw;rw[if_neg hw,put];exact xbz hq h
theorem xc7{P:Program}{f:FuncId}{args:List AV}{h h1:g9}{R:AEnd->g9->Prop}(hw:∀E,Wk E ⟨[],h⟩ ⟨[],h1⟩)(k:ACalls P f args h1 R):ACalls P f args h R:=by
 refine⟨k.1,λc w vs hs ha=>?_⟩;obtain⟨c1,s1,o1⟩:=hw ⟨0,c,h,w⟩ c ⟨#[],[]⟩ w ⟨rfl,rfl,λ_=>.top _,hs⟩ (.refl 0 hs);have ha1:RelL c1 args vs:=⟨ha.1,λj x v hx hv=>(ha.2 j x v hx hv).mono o1.ext⟩
 refine(k.2 c1 w vs s1.hs ha1).mono ?_;rintro e w' ⟨r,h',c',hR,hE,jg,ok'⟩;exact⟨r,h',c',hR,hE,jg,o1.trans ok'⟩
theorem EndR.mono{c c':Ctx}(hc:c.le c'){r:AEnd}{e:Ending}(h:EndR c r e):EndR c' r e:=by
 unfold EndR at h|-;split at h
 .exact h.mono hc
 .exact h.mono hc
 .omega
theorem jgb{P:Program}{f:FuncId}{args:List AV}{h h1 h2:g9}{r0:AEnd}(hw:∀E,Wk E ⟨[],h1⟩ ⟨[],h2⟩)(k:ACalls P f args h λr h'=>r=r0/\h'=h1):ACalls P f args h λr h'=>r=r0/\h'=h2:=by
 refine⟨k.1,λc w vs hs ha=>?_⟩;refine(k.2 c w vs hs ha).mono ?_;rintro e w' ⟨r,h',c',⟨rfl,rfl⟩,hE,jg,ok'⟩;obtain⟨c1,s1,o1⟩:=hw ⟨0,c',h',w'⟩ c' ⟨#[],[]⟩ w' ⟨rfl,rfl,λ_=>.top _,jg⟩ (.refl 0 jg);exact⟨_,_,c1,⟨rfl,rfl⟩,hE.mono o1.ext,s1.hs,ok'.trans o1⟩
theorem xas(E:Ent)(e:Env){p j t sz:Nat}{xs:List AV}(hp:e.h[p]?=some (.cells xs))(hj:xs[j]?=some .nils) :
  Wk E e ⟨e.t,e.h.set p (.cells (xs.set j (.own e.h.length 0)))++[AObj.uarr t sz []]⟩:=by
 have h1:=xvz E e (t:=t) (sz:=sz) hp hj;have il:p<e.h.length:=(cm.1 hp).1
 rwa [e6 _ _ il]at h1
theorem qol(E:Ent)(e:Env){p j t sz:Nat}{xs:List AV}(hp:e.h[p]?=some (.cells xs))(hj:xs[j]?=some .nils) :
  Wk E e ⟨e.t,e.h.set p (.cells (xs.set j (.own e.h.length 0)))++[AObj.arr t sz []]⟩:=by
 have h1:=xas E e (t:=t) (sz:=sz) hp hj;have h2:=qdt E ⟨e.t,e.h.set p (.cells (xs.set j (.own e.h.length 0)))++[AObj.uarr t sz []]⟩ (i:=e.h.length) (t:=t) (sz:=sz) (rows:=[]) ac;refine h1.trans ?_;simpa using h2
end Go.Abs

namespace Go.Abs
theorem xl7{P:Program}{f:FuncId}{rest:List AV}{h:g9}{R:AEnd->g9->Prop}(t sz:Nat)(k:ACalls P f (.own h.length 0::rest) (h++[.uarr t sz []]) R):ACalls P f (.nils::rest) h R:=by
 refine⟨k.1,λc w vs hs ha=>?_⟩;obtain⟨ij,s1,k1⟩:=xdp hs (.refl 0 hs) t sz;have ha1:RelL (c.addSl h.length 0 (.slice none 0 0)) (.own h.length 0::rest) vs:=by
  refine⟨by simpa using ha.1,λj x v hx hv=>?_⟩;cases j with
  |zero =>
   have:=qyh (ha.2 0 .nils v rfl hv);simp only[List.getElem?_cons_zero,eb]at hx;subst hx;rw[this];exact .own _ _ _ bj rfl
  |succ j =>
   simp only[qi6]at hx;exact(ha.2 (j+1) x v af hv).mono ij
 refine(k.2 _ w vs s1 ha1).mono ?_;rintro e w' ⟨r,h',c',hR,hE,jg,ok'⟩;exact⟨r,h',c',hR,hE,jg,k1.trans ok'⟩
end Go.Abs

namespace Go.Abs
theorem jdl{E:Ent}{c:Ctx}{h:g9}{w:World}(s:HSim c h w)(k:E.ok c h w){i:Nat}{o o':AObj}(hi:h[i]?=some o)(hR:ObjR c w i o')(hb:∀b,je c i o'=some b->je c i o=some b)(hsh:∀j,o.shares j->o'.shares j) :
  HSim c (h.set i o') w/\E.ok c (h.set i o') w:=by
 have o9:∀j ob b',(h.set i o')[j]?=some ob->je c j ob=some b'->∃o0,h[j]?=some o0/\je c j o0=some b'/\∀m,o0.shares m->ob.shares m:=λj ob b' hj iq=>by grind
 refine⟨⟨s.data,λj hj=>s.dom j af,λj ob hj=>?_,λj j' ob o2 b' hj ny kr nm=>?_,λj ob b' m v hj kr hD=>?_⟩,⟨k.edom,k.ext,k.blk0,bs,k.os,k.tape,k.output,k.size,k.frame,λj ob b' hj kr=>?_,k.dold⟩⟩
 .rcases m7 hj with⟨rfl,rfl⟩|⟨it,h1⟩
  .exact hR
  .exact s.obj j ob h1
 .obtain⟨o3,g1,vk,_⟩:=o9 j ob b' hj kr;obtain⟨o4,g2,g2',_⟩:=o9 j' o2 b' ny nm;exact s.apart j j' o3 o4 b' g1 g2 vk g2'
 .obtain⟨o3,g1,vk,g3⟩:=o9 j ob b' hj kr;exact g3 m (s.sep j o3 b' m v g1 vk hD)
 .obtain⟨o3,g1,vk,_⟩:=o9 j ob b' hj kr;exact k.newobj j o3 b' g1 vk
theorem xzb(E:Ent)(e:Env){i t sz:Nat}{rows:List (List AV)}(hi:e.h[i]?=some (.oarr t sz rows))(hd:∀r,r∈rows->(ko e.h r).all AV.isData=true):Wk E e ⟨e.t,e.h.set i (.uarr t sz (rows.map (ko e.h)))⟩:=λc a w s k=>by
 obtain⟨v,vs,h1,ho,hm,h2,h3,h4,h5⟩:=s.hs.obj i _ hi;obtain⟨s1,k1⟩:=jdl s.hs k hi (o':=.uarr t sz (rows.map (ko e.h))) ⟨v,vs,bw,ho,by simpa using hm,by simpa using h2,by simpa using h3,λr hr=>by
   obtain⟨r0,hr0,rfl⟩:=cy.1 hr;rw[qdi,eo];exact h4 r0 hr0,λi' j r x hr hx=>by
   rw[di]at hr;obtain⟨r0,hr0,rfl⟩:=db.1 hr;have hxm:=cv hx;rw[qdi,di]at hx;obtain⟨x0,o6,rfl⟩:=db.1 hx;obtain⟨u,hu,jr,_⟩:=h5 i' j r0 x0 hr0 o6;exact⟨u,hu,xbn (dr.1 (hd r0 (cv hr0)) _ hxm) (qdw s.hs jr)⟩⟩ (λb hb=>by simpa[je]using hb) (λj hj=>hj.elim)
 exact⟨c,⟨s.defers,s.size,s.tmps,s1⟩,k1⟩
theorem xsc(E:Ent)(e:Env){p j t sz:Nat}{xs:List AV}(hp:e.h[p]?=some (.cells xs))(hj:xs[j]?=some .nils) :
  Wk E e ⟨e.t,e.h.set p (.cells (xs.set j (.own e.h.length 0)))++[AObj.oarr t sz []]⟩:=λc a w s k=>by
 obtain⟨ij,s1,k1⟩:=xm7 s.hs k t sz;have il:p<e.h.length:=(cm.1 hp).1;obtain⟨s2,k2⟩:=xcu s1 k1 (p:=p) (xs:=xs) (xs':=xs.set j (.own e.h.length 0)) af ac (λi x x' v hx nw hr=>by
  rcases m7 nw with⟨rfl,rfl⟩|⟨it,h1⟩
  .rw[hj]at hx;cases hx;have:=qyh hr;subst this;exact .own _ _ _ bj rfl
  .rw[h1]at hx;cases hx;exact hr)
 rw[e6 _ _ il]at s2 k2;exact⟨_,⟨s.defers,s.size,λi=>(s.tmps i).mono ij,s2⟩,k2⟩
end Go.Abs

namespace Go.Abs
open Go.Proofs Go.Shelf
section
variable {P:Program} {E:Ent}
structure InsPostK(w w':World)(v v':Value)(e:TypeId)(sz n:Nat)(us:List Value):Prop where
 one:v'.oneCell'=true
 own:w'.ownsRow 0 e sz v' n us
 os:w'.os=w.os
 tape:w'.tape=w.tape
 output:w'.output=w.output
 size:w.heap.size<=w'.heap.size
 two:(∃g,v.ownBlock=some g/\v'.ownBlock=some g/\∀k,k≠g->w'.heap[k]?=w.heap[k]?)\/(v'.ownBlock=some w.heap.size/\∀k,k<w.heap.size->w'.heap[k]?=w.heap[k]?)
def xrv(P:Program)(f:FuncId)(e:TypeId)(sz:Nat):Prop:=∀(w:World) (v:Value) (n pos vb vc:Nat) (cs:List Value) (kv:Array Value) (tA:TypeId),w.ownsRow 0 e sz v n cs->(∀u∈cs,u.oneCell'=true)->pos<=n->n+1<=68719476736 ->
 w.heap[vb]?=some (.cells kv tA (0,0))->kv.size=sz->(∀u∈kv.toList,u.oneCell'=true)->(∀g,v.ownBlock=some g->vb≠g) ->
 Calls P f #[v,.int .i64 pos,.slice (some ⟨vb,0,none⟩) 1 vc] w λe' w'=>∃v',e'=.returned v'/\InsPostK w w' v v' e sz (n+1) (cs.take (pos * sz)++kv.toList++cs.drop (pos * sz))
theorem jbv{c:Ctx}{rows:List (List AV)}{vs:List Value}{sz pos:Nat}{r0:List AV}{us:List Value}(hp:pos<=rows.length)(hl:vs.length=rows.length * sz)(oz:∀r,r∈rows->r.length=sz)(hr0:r0.length=sz)(vp:us.length=sz)
  (h:∀(i j:Nat) (r:List AV) (x:AV),rows[i]?=some r->r[j]?=some x->∃u,vs[i * sz+j]?=some u/\Rel c x u/\u.oneCell'=true) (h0:∀(j:Nat) (x:AV),r0[j]?=some x->∃u,us[j]?=some u/\Rel c x u/\u.oneCell'=true) :
  ∀(i j:Nat) (r:List AV) (x:AV),(rows.take pos++r0::rows.drop pos)[i]?=some r->r[j]?=some x->∃u,(vs.take (pos * sz)++us++vs.drop (pos * sz))[i * sz+j]?=some u/\Rel c x u/\u.oneCell'=true:=by
 intro i j r x hr hx;have hps:pos * sz<=rows.length * sz:=dx _ hp;have hjs:∀r':List AV,r'.length=sz->r'[j]?=some x->j<sz:=λr' h1 h2=>by rw[<-h1];exact(cm.1 h2).1
 have htl:(vs.take (pos * sz)).length=pos * sz:=af;by_cases h1:i<pos
 .rw[co az,dt,if_pos h1]at hr;have hj:=hjs r (oz r (cv hr)) hx;have il:(i+1) * sz<=pos * sz:=dx _ h1;rw[ee,fo]at il;obtain⟨u,hu,hd⟩:=h i j r x hr hx;refine⟨u,?_,hd⟩;rw[dn,co aa,dt,if_pos aa];exact hu
 .rw[cx az]at hr;simp only[ey,fm hp]at hr;by_cases h2:i=pos
  .grind
  .rw[show i - pos=(i - (pos+1))+1 by omega]at hr;simp only[qi6,ew]at hr;rw[show pos+(i - (pos+1))=i - 1 by omega]at hr;have hj:=hjs r (oz r (cv hr)) hx;obtain⟨u,hu,hd⟩:=h (i - 1) j r x hr hx;refine⟨u,?_,hd⟩;have e1:i * sz=(i - 1) * sz+sz:=by rw[<-Nat.succ_mul];congr 1;omega
   have e2:pos * sz<=(i - 1) * sz:=dx _ aa;rw[cx af,ew];rw[show pos * sz+(i * sz+j - (vs.take (pos * sz)++us).length)=(i - 1) * sz+j by simp only[c7,htl,vp];omega];exact hu
theorem xv7{c:Ctx}{e:Env}{a:Act}{w:World}(s:Sim E.N c e a w)(k:E.ok c e.h w){ops:Array Oper}{rest:List Oper}{o1 o2:Oper}{Q:Exit->Act->World->Prop}{T el sz:Nat}{x xa xb f:Operand}{d1:Nat}{y:AV}{fid:FuncId}{ts:Array TypeId}
  (hI:xrv P fid el sz) (g1:o1.guard=none) (g2:o2.guard=none) (hd1:o1.dst=some d1) (hlt1:d1<E.N) (hd2:zj E.N o2.dst) (hop1:o1.op=.buildSlice T 1 #[(0,x)]) (hop2:o2.op=.call { callee:=.value f,args:=#[xa,xb,.tmp d1],argTypes:=ts })
  (hT:im P T=.slice el sz) (hel:im P el≠.other) (jx:jd P el=sz) (hpos:0<sz) (h24:sz<=16777216) (hx:me e true [x,xa,xb,f]) (hxk:e.getS x=y) (kp:y.cellsOk=true) (hyl:y.cells.length=sz)
  {i n:Nat} (hxa:e.getS xa=.own i n) {pos:Nat} (hxb:e.getS xb=.val (.int .i64 pos)) (it:∀t,xa=.tmp t->t≠d1) (hneb:∀t,xb=.tmp t->t≠d1) (hf:f=.func fid) (hEn:qtr P fid)
  {rows:List (List AV)} (hi:e.h[i]?=some (.oarr el sz rows)) (hn:rows.length=n) (hpn:pos<=n) (jm:n+1<=68719476736)
  (uy:∀c' a' w',Sim E.N c' ((({ e with h:=e.h.set i (.oarr el sz (rows.take pos++y.cells::rows.drop pos)) }:Env).put o1.dst .top).put o2.dst (.own i (n+1))) a' w'->E.ok c' (e.h.set i (.oarr el sz (rows.take pos++y.cells::rows.drop pos))) w'->wpList P ops Q rest a' w') :
  wpList P ops Q (o1::o2::rest) a w:=by
 have jr:=rp s hx;have mq:=jr x ac;have qwa:=jr xa ac;have hrxb:=jr xb ac;rw[hxk]at mq;rw[hxa]at qwa;rw[hxb]at hrxb;have hvb:a.eval xb=.int .i64 pos:=hrxb.val_inv;obtain⟨hc1,nh⟩:=mq.cells kp;have xbo:=xuh (P:=P) hT hel jx hpos h24 (v:=a.eval x) aa w;obtain⟨c1,qmn,s1,k1,hD1⟩:=qzg s.hs k (a.eval x).cells el;refine qcn (G:=true) qe4 (λ_=>?_) (λh=>by cases h);refine vj (w':=w.alloc (.cells (a.eval x).cells el)) (v:=.slice (some ⟨w.heap.size,0,none⟩) 1 1) (by simp only[execOp,hop1,qji,dj,fc,c8,xbo,c9,dm]) ?_;have s2:Sim E.N c1 (e.put o1.dst .top) (a.put o1.dst (.slice (some ⟨w.heap.size,0,none⟩) 1 1)) (w.alloc (.cells (a.eval x).cells el)) :=
  s.put qmn s1 (λj hj=>by rw[hd1]at hj;cases hj;exact hlt1) (.top _)
 obtain⟨hv,vs,m8,oz,zk⟩:=xfv s1 hi hn (qwa.mono qmn);have nj:∀u,u∈vs->u.oneCell'=true:=λu hu=>by
  obtain⟨j,hj⟩:=da hu;have il:j<rows.length * sz:=by have:=(cm.1 hj).1;rw[m8.1]at this;rw[hn];exact this
  have qvn:j / sz<rows.length:=Nat.div_lt_of_lt_mul af;have hr:rows[j / sz]?=some rows[j / sz]:=ac;have hrl':=oz _ (cv hr);have hm:j % sz<sz:=Nat.mod_lt _ hpos;obtain⟨u',wo,_,h1⟩:=zk (j / sz) (j % sz) _ (rows[j / sz][j % sz]'aa) hr ac;rw[show j / sz * sz+j % sz=j by rw[Nat.mul_comm];exact Nat.div_add_mod j sz,hj]at wo;cases wo;exact h1
 have honex:∀u,u∈(a.eval x).cells.toList->u.oneCell'=true:=λu hu=>by grind[da]
 have hkeep:(w.alloc (.cells (a.eval x).cells el)).heap[w.heap.size]?=some (.cells (a.eval x).cells el (0,0)):=heap_alloc_new _ _;have r8:∀g,(a.eval xa).ownBlock=some g->w.heap.size≠g:=λg hg e1=>by
  have na:c.sl i n=some (a.eval xa):=by
   cases qwa with
   |data h=>cases h
   |own _ _ _ h _=>exact h
  have hb:je c i (.oarr el sz rows)=some g:=bz;have:=(s.hs.obj i _ hi).lt hb;omega
 have qq2:=hI _ _ n pos w.heap.size 1 vs _ el m8 nj hpn jm hkeep aa honex r8;have heva:(a.put o1.dst (.slice (some ⟨w.heap.size,0,none⟩) 1 1)).eval xa=a.eval xa:=by
  rw[hd1];cases xa with
  |tmp t=>have:=it t rfl;simp[Act.put,Act.eval,gg (Ne.symm this),dz]
  |_=>rfl
 have hevb:(a.put o1.dst (.slice (some ⟨w.heap.size,0,none⟩) 1 1)).eval xb=.int .i64 pos:=by
  rw[<-hvb,hd1];cases xb with
  |tmp t=>have:=hneb t rfl;simp[Act.put,Act.eval,gg (Ne.symm this),dz]
  |_=>rfl
 have ut:d1<a.tmps.size:=qh5;have hevd:(a.put o1.dst (.slice (some ⟨w.heap.size,0,none⟩) 1 1)).eval (.tmp d1)=.slice (some ⟨w.heap.size,0,none⟩) 1 1:=by
  rw[hd1];simp[Act.put,Act.eval,ut]
 refine qcn (G:=true) qh1 (λ_=>?_) (λh=>by cases h);unfold Oper.wp;rw[qws (us:=#[]) (vs:=#[]) hop2 (by rw[hf];rfl) hEn];simp only[qjz,qkd,qji,dj,fc,heva,hevb,hevd];refine qq2.mono ?_;rintro en w' ⟨v',rfl,zd⟩;have qv7:(rows.take pos++y.cells::rows.drop pos).length=n+1:=az;obtain⟨c2,qq0,s3,k3,hr3⟩:=xnn (E:=E) s1 k1 (rows':=rows.take pos++y.cells::rows.drop pos) hi af aa aa (λr hr=>by
   rcases dw.1 hr with hr|hr
   .grind
   .rcases c0.1 hr with rfl|hr
    .exact hyl
    .exact oz r (qjf hr)) (jbv aa (by rw[m8.1,hn]) oz hyl af zk (us:=(a.eval x).cells.toList) (λj z hz=>by
    have il:j<(a.eval x).cells.size:=af;obtain⟨h3,h4⟩:=nh j z (a.eval x).cells[j] hz bc;exact⟨_,bc,h3.mono qmn,h4⟩)) zd.one (by rw[qv7];exact zd.own) zd.os zd.tape zd.output zd.size zd.two
 rw[qv7]at hr3;refine uy c2 _ w' ?_ k3;have:=s2.put (x:=.own i (n+1)) (d:=o2.dst) qq0 s3 (qyd hd2) hr3;rw[hd1]at this|-;exact this
end
end Go.Abs

namespace Go.Abs
open Go.Proofs
section
variable {P:Program} {E:Ent}
theorem xd0{c:Ctx}{h:g9}{w w':World}(hs:HSim c h w)(k:E.ok c h w){i e sz g cap:Nat}{rows rows':List (List AV)}{us:List Value}(hi:h[i]?=some (.uarr e sz rows))(hv:c.sl i rows.length=some (.slice (some ⟨g,0,none⟩) rows.length cap))
  (hl:rows'.length=rows.length) (my:∀r,r∈rows'->r.length=sz) (m8:w'.ownsRow 0 e sz (.slice (some ⟨g,0,none⟩) rows.length cap) rows.length us)
  (qlj:∀(i' j:Nat) (r:List AV) (x:AV),rows'[i']?=some r->r[j]?=some x->∃u,us[i' * sz+j]?=some u/\DRel c.D x u) (zz:w'.os=w.os) (ht:w'.tape=w.tape) (y9:w'.output=w.output) (jx:w.heap.size<=w'.heap.size)
  (ov:∀b,b≠g->b<w.heap.size->w'.heap[b]?=w.heap[b]?):HSim c (h.set i (.uarr e sz rows')) w'/\E.ok c (h.set i (.uarr e sz rows')) w':=by
 obtain⟨v0,vs,h1,xx,vw,h2,h3,h4,h5⟩:=hs.obj i _ hi;rw[hv]at h1;cases h1;have ry:je c i (.uarr e sz rows)=some g:=qfm;have qw2:je c i (.uarr e sz rows')=some g:=bz;have o9:∀j ob b',(h.set i (.uarr e sz rows'))[j]?=some ob->je c j ob=some b'->∃o0,h[j]?=some o0/\je c j o0=some b':=λj ob b' hj iq=>by grind
 refine⟨⟨λb j v hD=>?_,λj hj=>hs.dom j af,λj ob hj=>?_,λj j' ob o2 b' hj ny kr nm=>?_,λj ob b' m v hj kr hD=>?_⟩,⟨k.edom,k.ext,k.blk0,bs,zz.trans k.os,ht.trans k.tape,y9.trans k.output,dv k.size jx,λb hb kf=>?_,λj ob b' hj kr=>?_,k.dold⟩⟩
 .have hb:b≠g:=λe2=>by
   subst e2;exact hs.sep i _ b j v hi ry hD
  have mb:=hs.data b j v hD;rw[World.cell?_of_block (w:=w) (ov b hb (World.block_lt_of_cell? w ⟨b,j,none⟩ mb))];exact mb
 .rcases m7 hj with⟨rfl,rfl⟩|⟨it,h6⟩
  .exact⟨_,us,by rw[hl];exact hv,rfl,λm hm=>vw m aa,by rw[hl];exact m8,by rw[hl];exact h3,my,qlj⟩
  .refine(hs.obj j ob h6).keep (.refl c) (λ_=>rfl) λb' iq=>ov b' (λe2=>it ?_) ((hs.obj j ob h6).lt iq);subst e2;exact hs.apart j i ob _ b' h6 hi iq ry
 .obtain⟨o3,g1,vk⟩:=o9 j ob b' hj kr;obtain⟨o4,g2,g2'⟩:=o9 j' o2 b' ny nm;exact hs.apart j j' o3 o4 b' g1 g2 vk g2'
 .rcases m7 hj with⟨rfl,rfl⟩|⟨it,h6⟩
  .rw[qw2]at kr;have h9:(AObj.uarr e sz rows).shares m:=hs.sep j (.uarr e sz rows) b' m v hi af hD;exact h9
  .exact hs.sep j ob b' m v h6 kr hD
 .have it:b≠g:=λe2=>by
   subst e2;rcases k.newobj i _ b hi ry with⟨i0,o0,h6,h7⟩|h6
   .grind
   .omega
  rw[ov b it (qi4 hb k.size)];exact k.frame b hb kf
 .obtain⟨o3,g1,vk⟩:=o9 j ob b' hj kr;exact k.newobj j o3 b' g1 vk
end
end Go.Abs

namespace Go.Abs
section
variable {P:Program} {E:Ent}
theorem jd5{c:Ctx}{h:g9}{w:World}(hs:HSim c h w)(k:E.ok c h w){i e sz b cap:Nat}{rows rows':List (List AV)}{us:List Value}{cur:Array Value}(hi:h[i]?=some (.uarr e sz rows))(hv:c.sl i rows.length=some (.slice (some ⟨b,0,none⟩) rows.length cap))
  (hl:rows'.length=rows.length) (my:∀r,r∈rows'->r.length=sz) (vp:us.length=rows.length * sz) (hg:w.heap[b]?=some (.cells cur e (0,0))) (ng:rows.length<=cap) (lw:cap<=maxLen) (md:cur.size=cap * sz)
  (vw:∀m,rows.length<m->c.sl i m=none) (jm:rows.length<=68719476736) (qlj:∀(i' j:Nat) (r:List AV) (x:AV),rows'[i']?=some r->r[j]?=some x->∃u,us[i' * sz+j]?=some u/\DRel c.D x u) :
  HSim c (h.set i (.uarr e sz rows')) (w.setRow b (us++cur.toList.drop us.length).toArray)/\E.ok c (h.set i (.uarr e sz rows')) (w.setRow b (us++cur.toList.drop us.length).toArray):=by
 have hcs':rows.length * sz<=cur.size:=qf5;have ov:∀g,g≠b->(w.setRow b (us++cur.toList.drop us.length).toArray).heap[g]?=w.heap[g]?:=λg hg=>setRow_other w b g _ hg;have ut:(w.setRow b (us++cur.toList.drop us.length).toArray).heap.size=w.heap.size:=ac;have ry:je c i (.uarr e sz rows)=some b:=qfm;have qw2:je c i (.uarr e sz rows')=some b:=bz;have o9:∀j ob b',(h.set i (.uarr e sz rows'))[j]?=some ob->je c j ob=some b'->∃o0,h[j]?=some o0/\je c j o0=some b':=λj ob b' hj iq=>by grind
 have ue:ObjR c (w.setRow b (us++cur.toList.drop us.length).toArray) i (.uarr e sz rows'):=by
  refine⟨.slice (some ⟨b,0,none⟩) rows.length cap,us,by rw[hl];exact hv,rfl,λm hm=>vw m aa,⟨by rw[hl];exact vp,.inr ⟨b,cap,_,by rw[hl],dq _,setRow_heap w b cur _ e (0,0) hg,by rw[hl];exact ng,lw,?_,?_⟩⟩,by rw[hl];exact jm,my,qlj⟩
  .grind
  .grind
 refine⟨⟨λg j v hD=>?_,λj hj=>hs.dom j af,λj ob hj=>?_,λj j' ob o2 b' hj ny kr nm=>?_,λj ob b' m v hj kr hD=>?_⟩,⟨k.edom,k.ext,k.blk0,bs,k.os,k.tape,k.output,qh6,λg jp kf=>?_,λj ob b' hj kr=>?_,k.dold⟩⟩
 .have jp:g≠b:=λe2=>by
   subst e2;exact hs.sep i _ g j v hi ry hD
  rw[World.cell?_of_block (w:=w) (ov g jp)];exact hs.data g j v hD
 .rcases m7 hj with⟨rfl,rfl⟩|⟨it,h6⟩
  .exact ue
  .refine(hs.obj j ob h6).keep (.refl c) (λ_=>rfl) λb' iq=>ov b' λe2=>it ?_;subst e2;exact hs.apart j i ob _ b' h6 hi iq ry
 .obtain⟨o3,g1,vk⟩:=o9 j ob b' hj kr;obtain⟨o4,g2,g2'⟩:=o9 j' o2 b' ny nm;exact hs.apart j j' o3 o4 b' g1 g2 vk g2'
 .rcases m7 hj with⟨rfl,rfl⟩|⟨it,h6⟩
  .have hb1':je c j (.uarr e sz rows')=some b':=kr;rw[qw2]at hb1';have h9:(AObj.uarr e sz rows).shares m:=hs.sep j (.uarr e sz rows) b' m v hi af hD;exact h9
  .exact hs.sep j ob b' m v h6 kr hD
 .have it:g≠b:=λe2=>by
   subst e2;rcases k.newobj i _ g hi ry with⟨i0,o0,h6,h7⟩|h6
   .grind
   .omega
  rw[ov g it];exact k.frame g jp kf
 .obtain⟨o3,g1,vk⟩:=o9 j ob b' hj kr;exact k.newobj j o3 b' g1 vk
theorem xvs{c:Ctx}{e:Env}{a:Act}{w:World}(s:Sim E.N c e a w)(k:E.ok c e.h w){ops:Array Oper}{rest:List Oper}{o1:Oper}{Q:Exit->Act->World->Prop}{T T' el:TypeId}{sz i n d1:Nat}{x y:Operand}{rows rows2:List (List AV)}
  (g1:o1.guard=none) (hd1:o1.dst=some d1) (hlt1:d1<E.N) (hop1:o1.op=.call { callee:=.builtin .copy,args:=#[x,y],argTypes:=#[T,T'] })
  (hT:im P T=.slice el sz) (hel:im P el≠.other) (hsize:jd P el=sz) (hpos:0<sz) (iz:me e true [x,y]) (hx:e.getS x=.own i n) (hy:e.getS y=.slice rows2) (hi:e.h[i]?=some (.uarr el sz rows)) (hn:rows.length=n) (hn2:rows2.length=n) (my:∀r,r∈rows2->r.length=sz)
  (uy:∀a' w',Sim E.N c (({ e with h:=e.h.set i (.uarr el sz rows2) }:Env).put o1.dst (.val (.int .i64 n))) a' w'->E.ok c (e.h.set i (.uarr el sz rows2)) w'->wpList P ops Q rest a' w') :
  wpList P ops Q (o1::rest) a w:=by
 obtain⟨iT,dT,zT,_,pw,_,ua,_⟩:=li hT ac;obtain⟨rfl,ie,ln,un⟩:=vh ua;have mq:=rp s iz x ac;have hry:=rp s iz y ac;rw[hx]at mq;rw[hy]at hry;have hd:=Rel.slice_inv hry;obtain⟨ad,cap2,hye,qoh⟩:=qy9 s.hs my hpos hd;obtain⟨v,vs,h1,xx,vw,h2,h3,h4,h5⟩:=s.hs.obj i _ hi;have hxv:a.eval x=v:=by
  cases mq with
  |data h=>cases h
  |own i n v' h' ho =>
   rw[hn]at h1;rw[h1]at h';cases h';rfl
 have hlu:(Builtin.lenOf (a.eval y)).run P w=.ok rows2.length w:=by rw[hye];simp[Builtin.lenOf]
 by_cases h0:n=0
 .have hr2:rows2=[]:=fg aa;have hr1:rows=[]:=fg aa;subst hr2;subst hr1;subst h0;have jk:∀ty,(Builtin.copy_ #[T,T'] ty #[a.eval x,a.eval y]).run P w=.ok (goInt 0) w:=λty=>by
   rw[hxv,hye];rcases h2.2 with⟨rfl,_⟩|⟨g,cp,cur,rfl,_,hg,ng,lw,md,xy⟩
   .cases ad<;>simp[Builtin.copy_,run_underlying pw,Builtin.lenOf,Builtin.firstCells,sizeOf,typeInfo,ln,loadCells,loadCellsFrom]
   .cases ad<;>simp[Builtin.copy_,run_underlying pw,Builtin.lenOf,Builtin.firstCells,sizeOf,typeInfo,ln,loadCells,loadCellsFrom,storeCells]
  refine Proofs.wpList_copy_runI w g1 x y T T' hop1 _ _ rfl rfl (jk _) ?_;have qlg:e.h.set i (.uarr el sz [])=e.h:=qcf hi;rw[qlg]at uy;refine uy _ _ ?_ k;exact s.put (.refl c) s.hs (λj hj=>by rw[hd1]at hj;cases hj;exact hlt1) (.val _)
 .have it:rows2≠[]:=λe2=>by rw[e2]at hn2;simp at hn2;omega
  rcases qoh with e2|⟨b2,off2,rfl,us,vp,mb,nj,qlj⟩
  .grind
  rcases h2.2 with⟨rfl,e3⟩|⟨g,cp,cur,rfl,_,hg,ng,lw,md,xy⟩
  .omega
  have hcs':rows.length * sz<=cur.size:=qf5;have hul2:us.length=rows.length * sz:=af;have kn:=run_storeCells_at P g 0 el us 0 cur w hg aa nj;simp only[ea,cz,qjj,ff]at kn;have hfc:=run_firstCells_some (P:=P) w ie.size n ⟨b2,off2,none⟩ rows2.length cap2 us af (λj u hu=>by rw[vg];exact mb j u hu);rw[hn2]at hfc;have jk:∀ty,(Builtin.copy_ #[T,T'] ty #[a.eval x,a.eval y]).run P w=.ok (goInt n) (w.setRow g (us++cur.toList.drop us.length).toArray):=λty=>by
   rw[hxv,hye];simp[Builtin.copy_,run_underlying pw,Builtin.lenOf,sizeOf,typeInfo,ln,hn2,hn,hfc,kn]
  refine Proofs.wpList_copy_runI w g1 x y T T' hop1 _ _ rfl rfl (jk _) ?_;obtain⟨s1,k1⟩:=jd5 (E:=E) s.hs k (rows':=rows2) (us:=us) hi h1 aa my hul2 hg ng lw md vw h3 qlj;refine uy _ _ ?_ k1;exact s.put (.refl c) s1 (λj hj=>by rw[hd1]at hj;cases hj;exact hlt1) (.val _)
end
end Go.Abs

namespace Go.Abs
open Go.Proofs
section
variable {P:Program} {E:Ent}
theorem jbl{c:Ctx}{e:Env}{a:Act}{w:World}(s:Sim E.N c e a w)(k:E.ok c e.h w){ops:Array Oper}{rest:List Oper}{o1:Oper}{Q:Exit->Act->World->Prop}{T el:TypeId}{x y:Operand}{d1 n m:Nat}{i:TypeInfo}{z:Value}
  (g1:o1.guard=none) (hd1:o1.dst=some d1) (hlt1:d1<E.N) (hop1:o1.op=.makeSlice T x y)
  (ht:P.underlying T=some (.slice el)) (hi:P.info? el=some i) (hz:i.zero=some z) (p8:z.cells.size=i.size) (hpos:0<i.size) (hbytes:i.bytes<=2048) (hzok:∀v,v∈z.cells.toList->zOk v=true)
  (hx:me e true [x,y]) (hxv:e.getS x=.val (.int .i64 n)) (hyv:e.getS y=.val (.int .i64 m)) (wb:n<=m) (hn:n<=68719476736) (hm:m<=68719476737)
  (uy:∀c' a' w',Sim E.N c' (({ e with h:=e.h++[.uarr el i.size (List.replicate n (z.cells.toList.map qkx))] }:Env).put o1.dst (.own e.h.length n)) a' w'->E.ok c' (e.h++[.uarr el i.size (List.replicate n (z.cells.toList.map qkx))]) w'->wpList P ops Q rest a' w') :
  wpList P ops Q (o1::rest) a w:=by
 have mq:=rp s hx x ac;rw[hxv]at mq;have hvx:a.eval x=.int .i64 n:=mq.val_inv;have hry:=rp s hx y ac;rw[hyv]at hry;have hvy:a.eval y=.int .i64 m:=hry.val_inv;have hbb:i.bytes * m<=2048 * 68719476737:=qjh hbytes hm;have jk:=run_make (P:=P) w T el i z ht hi hz .i64 .i64 (n:Int) (m:Int) aa aa (by
  have:(i.bytes:Int) * (m:Int)=((i.bytes * m:Nat):Int):=ac;omega) aa
 simp only[qke]at jk;have px:∀q,q<m * i.size->(madeCells z.cells (m * i.size))[q]?=z.cells[q % i.size]?:=λm hm=>by
  unfold madeCells;rw[fy];simp only[Array.getElem?_range,hm,if_true,e8,p8];have:m % i.size<z.cells.size:=qf8;rw[fi this,getElem!_pos z.cells (m % i.size) this]
 have hnmi:n * i.size<=m * i.size:=dx _ wb;have jx:(madeCells z.cells (m * i.size)).size=m * i.size:=by simp[madeCells]
 have hU:=xoq (E:=E) (n:=n) (cap:=m) (sz:=i.size) (cur:=madeCells z.cells (m * i.size)) (rows:=List.replicate n (z.cells.toList.map qkx)) s.hs k el ac wb qha hn (by
   intro r hr;rw[List.eq_of_mem_replicate hr];simp[p8]) jx (by
   intro i' j r x' hr nw;have mw:i'<n:=af;rw[qkf,if_pos mw]at hr;cases hr;rw[di]at nw;obtain⟨u,hu,rfl⟩:=db.1 nw;have hj:j<i.size:=af;have il:i' * i.size+j<n * i.size:=by
    have:(i'+1) * i.size<=n * i.size:=dx _ mw;rw[Nat.succ_mul]at this;omega
   refine⟨u,?_,xdy (hzok u (cv hu))⟩;rw[dt,if_pos il,fb,px _ aa];have:(i' * i.size+j) % i.size=j:=qe7;rw[this,<-fb];exact hu)
 obtain⟨ij,s1,k1⟩:=hU;refine qcn (G:=true) qe4 (λ_=>?_) (λh=>by cases h);refine vj (w':=w.alloc (.cells (madeCells z.cells (m * i.size)) el)) (v:=.slice (some ⟨w.heap.size,0,none⟩) n m) (by simp only[execOp,hop1,hvx,hvy,c8,jk,c9,dm]) ?_;refine uy _ _ _ ?_ k1;exact s.put ij s1 (λj hj=>by rw[hd1]at hj;cases hj;exact hlt1) (.own _ _ _ bj rfl)
theorem jd1{c:Ctx}{e:Env}{a:Act}{w:World}(s:Sim E.N c e a w)(k:E.ok c e.h w){ops:Array Oper}{rest:List Oper}{o1:Oper}{Q:Exit->Act->World->Prop}{T el:TypeId}{x y:Operand}{d1 n m sz:Nat}{zr:List AV}
  (g1:o1.guard=none) (hd1:o1.dst=some d1) (hlt1:d1<E.N) (hop1:o1.op=.makeSlice T x y)
  (hT:im P T=.slice el sz) (hel:im P el≠.other) (hsize:jd P el=sz) (hpos:0<sz) (hbytes:jq P el<=2048) (hzt:∀x,x∈jh P el->x≠.top) (hzr:(jh P el).map qnx=zr)
  (hx:me e true [x,y]) (hxv:e.getS x=.val (.int .i64 n)) (hyv:e.getS y=.val (.int .i64 m)) (wb:n<=m) (hn:n<=68719476736) (hm:m<=68719476737)
  (uy:∀c' a' w',Sim E.N c' (({ e with h:=e.h++[.uarr el sz (List.replicate n zr)] }:Env).put o1.dst (.own e.h.length n)) a' w'->E.ok c' (e.h++[.uarr el sz (List.replicate n zr)]) w'->wpList P ops Q rest a' w') :
  wpList P ops Q (o1::rest) a w:=by
 obtain⟨iT,dT,zT,_,pw,_,ua,_⟩:=li hT ac;obtain⟨rfl,ie,ln,un⟩:=vh ua;obtain⟨ie',de,ze,qi,_,yp,oq,hts,htz,p8,hz1⟩:=li (P:=P) (t:=el) rfl hel;rw[ln]at qi;cases qi;subst un;have hb:ie.bytes<=2048:=qfb;have iz:∀v,v∈ze.cells.toList->qkx v=qnx (ul v)/\zOk v=true:=λv hv=>by grind[qjk,xcf]
 have my:ze.cells.toList.map qkx=zr:=qfj;refine jbl s k g1 hd1 hlt1 hop1 pw ln yp p8 hpos hb (λv hv=>(iz v hv).2) hx hxv hyv wb hn hm ?_;rw[my];exact uy
theorem jk2{c:Ctx}{e:Env}{a:Act}{w:World}(s:Sim E.N c e a w)(k:E.ok c e.h w){ops:Array Oper}{rest:List Oper}{o1 o2:Oper}{Q:Exit->Act->World->Prop}{T el:TypeId}{x y:Operand}{d1 n j i sz:Nat}{zr:List AV}{rows:List (List AV)}
  (g1:o1.guard=none) (g2:o2.guard=none) (hd1:o1.dst=some d1) (hlt1:d1<E.N) (hd2:o2.dst=none) (hop1:o1.op=.slice T x (some y) none none) (hop2:o2.op=.call { callee:=.builtin .clear,args:=#[.tmp d1],argTypes:=#[T] })
  (hT:im P T=.slice el sz) (hel:im P el≠.other) (hsize:jd P el=sz) (hpos:0<sz) (hzt:∀x,x∈jh P el->x≠.top) (hzr:(jh P el).map qnx=zr)
  (hx:me e true [x,y]) (hxv:e.getS x=.own i n) (hyv:e.getS y=.val (.int .i64 j)) (hi:e.h[i]?=some (.uarr el sz rows)) (hn:rows.length=n) (hj:j<=n)
  (uy:∀a' w',Sim E.N c (({ e with h:=e.h.set i (.uarr el sz (rows.take j++List.replicate (n - j) zr)) }:Env).put o1.dst .top) a' w'->E.ok c (e.h.set i (.uarr el sz (rows.take j++List.replicate (n - j) zr))) w'->wpList P ops Q rest a' w') :
  wpList P ops Q (o1::o2::rest) a w:=by
 obtain⟨iT,dT,zT,_,pw,_,ua,_⟩:=li hT ac;obtain⟨rfl,ie,ln,un⟩:=vh ua;obtain⟨ie',de,ze,qi,_,yp,oq,hts,htz,p8,hz1⟩:=li (P:=P) (t:=el) rfl hel;rw[ln]at qi;cases qi;subst un;have iz:∀v,v∈ze.cells.toList->qkx v=qnx (ul v)/\zOk v=true:=λv hv=>by grind[qjk,xcf]
 have my:ze.cells.toList.map qkx=zr:=qfj;have mq:=rp s hx x ac;rw[hxv]at mq;have hry:=rp s hx y ac;rw[hyv]at hry;have hvy:a.eval y=.int .i64 j:=hry.val_inv;obtain⟨hv,us,m8,oz,zk⟩:=qwx s.hs hi hn mq;have yt:(zeroValue el).run P w=.ok ze w:=qfk;have ut:d1<a.tmps.size:=qh5;have fin:∀(v1:Value) (w':World),(Instr.sliceAt T (a.eval x) (some (.int .i64 j)) none none).run P w=.ok v1 w->(Builtin.clear_ #[T] o2.type #[v1]).run P w=.ok (.tuple #[]) w' ->
   HSim c (e.h.set i (.uarr el ie.size (rows.take j++List.replicate (n - j) zr))) w'->E.ok c (e.h.set i (.uarr el ie.size (rows.take j++List.replicate (n - j) zr))) w'->wpList P ops Q (o1::o2::rest) a w:=by
  intro v1 w' h1 h2 s1 k1;refine qcn (G:=true) qe4 (λ_=>?_) (λh=>by cases h);refine vj (w':=w) (v:=v1) (by simp only[execOp,hop1,hvy,e8,Option.map_none,c8,h1,c9,dm]) ?_;have hevd:(a.put o1.dst v1).eval (.tmp d1)=v1:=by rw[hd1];simp[Act.put,Act.eval,ut]
  refine qcn (G:=true) qh1 (λ_=>?_) (λh=>by cases h);refine vj (w':=w') (v:=.tuple #[]) (by simp only[execOp,hop2,resolve,invoke,builtin,c8,dm,c9,qji,dj,fc,hevd,h2]) ?_;rw[hd2];exact uy _ w' (s.put (.refl c) s1 (λq hq=>by rw[hd1]at hq;cases hq;exact hlt1) (.top _)) k1
 have na:∀(b:Option Addr) (cap:Nat),n<=cap->(Instr.sliceAt T (.slice b n cap) (some (.int .i64 j)) none none).run P w=.ok (.slice (if cap=j then b else b.map (·.add (j * ie.size))) (n - j) (cap - j)) w:=λb cap hc=>by
  have hnj:¬(n<j):=aa;simp[Instr.sliceAt,Instr.slice,Instr.sliceBounds,Instr.sliceBound,asIntOf,ox pw,hj,hnj,xl ln]
 rcases m8.2 with⟨hnil,hn0⟩|⟨g,cap,cur,nk,hg0,hh,ng,lw,md,xy⟩
 .subst hn0;have hj0:j=0:=aa;subst hj0;have hr0:rows=[]:=fg hn;subst hr0;refine fin _ w (by rw[hnil];exact na none 0 (cn _)) (by simp[Builtin.clear_,ox pw]) ?_ ?_
  .simp only[List.take_nil,fe,List.replicate_zero,ej];rw[qcf hi];exact s.hs
  .simp_all[List.take_nil,fe,List.replicate_zero,ej,qcf]
 .by_cases hjn:j=n
  .subst hjn;refine fin _ w (by rw[nk];exact na _ cap ng) (by
    rw[fe];by_cases hq:cap=j
    .simp[hq,Builtin.clear_,ox pw]
    .simp[hq,Builtin.clear_,ox pw]) ?_ ?_
   .simp only[fe,List.replicate_zero,ej];rw[fw aa,qcf hi];exact s.hs
   .simp_all[fe,List.replicate_zero,ej,fw,qcf]
  .have il:j<n:=aa;have hcj:cap≠j:=aa;have hmul:j * ie.size+(n - j) * ie.size=n * ie.size:=qg1;have quc:n * ie.size<=cap * ie.size:=dx _ ng;have hzc:(Builtin.zeroCells ze.cells (n - j)).size=(n - j) * ie.size:=by simp[Builtin.zeroCells,p8]
   have px:∀q,q<(n - j) * ie.size->(Builtin.zeroCells ze.cells (n - j))[q]?=ze.cells[q % ie.size]?:=λq hq=>by
    unfold Builtin.zeroCells;rw[fy];simp only[Array.getElem?_range,p8,hq,if_true,e8];have:q % ie.size<ze.cells.size:=qf8;rw[fi this,getElem!_pos ze.cells (q % ie.size) this]
   have nj:∀u∈(Builtin.zeroCells ze.cells (n - j)).toList,u.oneCell'=true:=λu hu=>by grind[da]
   obtain⟨Z,hZ⟩:∃Z,Builtin.zeroCells ze.cells (n - j)=Z:=⟨_,rfl⟩
   rw[hZ]at hzc px nj;have kn:=run_storeCells_at P g (j * ie.size) el Z.toList 0 cur w hh af nj;simp only[ea]at kn;have hadd:(⟨g,0,none⟩:Addr).add (j * ie.size)=⟨g,j * ie.size,none⟩:=by rw[vg,cz]
   have hzl:zr.length=ie.size:=af;have hjm:min (j * ie.size) (cap * ie.size)=j * ie.size:=aa;have hjm2:min (j * ie.size) (n * ie.size)=j * ie.size:=aa;obtain⟨s1,k1⟩:=xd0 (E:=E) s.hs k (w':=w.setRow g (cur.toList.take (j * ie.size)++Z.toList++cur.toList.drop (j * ie.size+Z.toList.length)).toArray) (rows':=rows.take j++List.replicate (n - j) zr) (us:=us.take (j * ie.size)++Z.toList) hi
    (by rw[hn,<-nk];exact hv) az (λr hr=>by
     rcases dw.1 hr with hr|hr
     .grind
     .rw[List.eq_of_mem_replicate hr];exact hzl)
    ⟨by rw[c7,ey,m8.1,qjy,hzc,hn,hjm2];omega,.inr ⟨g,cap,_,by rw[hn],dq _,setRow_heap w g cur _ el (0,0) hh,by rw[hn];exact ng,lw,by simp only[qjg,c7,ey,qi8,qjy,hzc,md,hjm];omega,by
     rw[hn];have e1:cur.toList.take (j * ie.size)=us.take (j * ie.size):=af;simp only[e1];rw[qkb af,fw af]⟩⟩
    (λi' q r x hr hx=>by
     by_cases h1:i'<j
     .rw[co az,dt,if_pos h1]at hr;obtain⟨u,hu,hd⟩:=zk i' q r x hr hx;have hq:q<ie.size:=af;have h2:(i'+1) * ie.size<=j * ie.size:=dx _ h1;rw[ee,fo]at h2;refine⟨u,?_,hd⟩;rw[co af,dt,if_pos aa];exact hu
     .rw[cx az]at hr;have ou:i' - (rows.take j).length<n - j:=af;rw[qkf,if_pos ou]at hr;cases hr;have hq:q<ie.size:=af;rw[<-my,di]at hx;obtain⟨u,hu,rfl⟩:=db.1 hx;refine⟨u,?_,xdy (iz u (cv hu)).2⟩;have hm:(rows.take j).length=j:=az;rw[hm]at ou;have h4:(i' - j) * ie.size+j * ie.size=i' * ie.size:=qg1;have h5:(i' - j+1) * ie.size<=(n - j) * ie.size:=dx _ ou;rw[ee,fo]at h5;have h6:(us.take (j * ie.size)).length=j * ie.size:=af;have h8:j * ie.size<=i' * ie.size:=dx _ aa;rw[cx aa,h6,show i' * ie.size+q - j * ie.size=(i' - j) * ie.size+q by omega,fb,px _ aa];have h7:((i' - j) * ie.size+q) % ie.size=q:=qe7;rw[h7,<-fb];exact hu) rfl rfl rfl ac (λb hb _=>setRow_other w g b _ hb)
   refine fin _ _ (by rw[nk];exact na _ cap ng) (by
    rw[if_neg hcj];cases hq:n - j with
    |zero=>omega
    |succ q =>
     rw[hq]at hZ;simp only[Builtin.clear_,e8,hadd];simp[ox pw,yt,hZ,kn]) s1 k1
end
end Go.Abs
