/- Part 6 of a proof. -/
import Derived.RangeFuncIn
import Derived.RangeFuncLeaves
import Derived.RangeFuncRecord
import Derived.OrdersIn
import Derived.TacticsIn
import Derived.RangeFuncSeq
import Derived.Shelf.Sort.Plain
import Derived.Shelf.Slices.CompactI
import Derived.Shelf.Slices.In.SortNone
import Derived.Lib.RowBridge
import Derived.Lib.SliceRun
import Derived.Test.YtolejdhnnchfpaaGreatDoorR05
set_option linter.all false
set_option maxRecDepth 100000
set_option maxHeartbeats 4000000
namespace Go.Abs
open Go.Proofs
section
variable {P:Program} {E:Ent}
section
variable{e:Env}{w:World}{om:Array Oper}{rest:List Oper}{o1:Oper}{hu:Exit->Act->World->Prop}{T el:TypeId}{y:Operand}{d1 m sz:Nat}{zr:List V}
def TG{c:Ctx}{a:Act}(s:Sim E.N c e a w)(k:E.ok c e.h w){x:Operand}{n:Nat}{i:TypeInfo}{hI:Value}
  (g1:o1.guard=none) (hd1:o1.dst=some d1) (hlt1:d1<E.N) (hop1:o1.op=.makeSlice T x y)
  (ht:P.underlying T=some (.slice el)) (hi:P.info? el=some i) (hz:i.zero=some hI) (zf:hI.cells.size=i.size) (hpos:0<i.size) (hbytes:i.bytes<=2048) (hzok:∀v,v∈hI.cells.toList->uB v=true)
  (hx:sn e true [x,y]) (hxv:e.getS x=.val (.int .i64 n)) (hyv:e.getS y=.val (.int .i64 m)) (aM:n<=m) (hn:n<=68719476736) (hm:m<=68719476737)
  (aY:∀c' a' w',Sim E.N c' (({ e with h:=e.h++[.uarr el i.size (List.replicate n (hI.cells.toList.map jM))] }:Env).put o1.dst (.own e.h.length n)) a' w'->E.ok c' (e.h++[.uarr el i.size (List.replicate n (hI.cells.toList.map jM))]) w'->wpList P om hu rest a' w') :
  wpList P om hu (o1::rest) a w:=by
 have ss:=yh s hx x Z;rw[hxv]at ss;have hvx:a.eval x=.int .i64 n:=ss.val_inv;have hry:=yh s hx y Z;rw[hyv]at hry;have hvy:a.eval y=.int .i64 m:=hry.val_inv;have hbb:i.bytes * m<=2048 * 68719476737:=qi4 hbytes hm;have pj:=run_make (P:=P) w T el i hI ht hi hz .i64 .i64 (n:Int) (m:Int) J J (by have:(i.bytes:Int) * (m:Int)=((i.bytes * m:Nat):Int):=Z;omega) J
 simp only[qj5]at pj;have wb:∀q,q<m * i.size->(madeCells hI.cells (m * i.size))[q]?=hI.cells[q % i.size]?:=λm hm=>by unfold madeCells;grind[qik,ky]
 have hnmi:n * i.size<=m * i.size:=jl _ aM;have p6:(madeCells hI.cells (m * i.size)).size=m * i.size:=by simp[madeCells]
 have hU:=Sv (E:=E) (n:=n) (cap:=m) (sz:=i.size) (nu:=madeCells hI.cells (m * i.size)) (S:=List.replicate n (hI.cells.toList.map jM)) s.hs k el Z aM qgx hn (by
   intro r G;rw[List.eq_of_mem_replicate G];simp[zf]) p6 (by
   intro i' j r x' G um;have th:i'<n:=W;rw[qj6,gh th]at G;cases G;rw[ja]at um;obtain⟨u,Q,rfl⟩:=iy.1 um;have hj:j<i.size:=W;have ni:i' * i.size+j<n * i.size:=by have:(i'+1) * i.size<=n * i.size:=jl _ th;grind
   refine⟨u,?_,Hb (hzok u (gw Q))⟩;rw[jo,gh ni,kq,wb _ J];have:(i' * i.size+j) % i.size=j:=qf1;rw[this,<-kq];exact Q)
 obtain⟨nh,s1,k1⟩:=hU;refine nX (hr:=true) cj (λ_=>?_) (λh=>by cases h);refine cL (w':=w.alloc (.cells (madeCells hI.cells (m * i.size)) el)) (v:=.slice (some ⟨w.heap.size,0,none⟩) n m) (by simp only[execOp,hop1,hvx,hvy,iu,pj,iv,je]) ?_;exact Qdg
def Zx{c:Ctx}{a:Act}(s:Sim E.N c e a w)(k:E.ok c e.h w){x:Operand}{n:Nat}
  (g1:o1.guard=none) (hd1:o1.dst=some d1) (hlt1:d1<E.N) (hop1:o1.op=.makeSlice T x y)
  (hT:nj P T=.slice el sz) (hel:nj P el≠.other) (hsize:oh P el=sz) (hpos:0<sz) (hbytes:pn P el<=2048) (hzt:∀x,x∈o8 P el->x≠.top) (hzr:(o8 P el).map nM=zr)
  (hx:sn e true [x,y]) (hxv:e.getS x=.val (.int .i64 n)) (hyv:e.getS y=.val (.int .i64 m)) (aM:n<=m) (hn:n<=68719476736) (hm:m<=68719476737)
  (aY:∀c' a' w',Sim E.N c' (({ e with h:=e.h++[.uarr el sz (List.replicate n zr)] }:Env).put o1.dst (.own e.h.length n)) a' w'->E.ok c' (e.h++[.uarr el sz (List.replicate n zr)]) w'->wpList P om hu rest a' w') :
  wpList P om hu (o1::rest) a w:=by
 obtain⟨iT,dT,zT,_,wm,_,aV,_⟩:=rk hT Z;obtain⟨rfl,ie,r5,bV⟩:=cH aV;obtain⟨ie',de,ze,wt,_,gH,vd,hts,htz,zf,zd⟩:=rk (P:=P) (t:=el) rfl hel;rw[r5]at wt;cases wt;subst bV;have hb:ie.bytes<=2048:=c9;have nz:∀v,v∈ze.cells.toList->jM v=nM (bD v)/\uB v=true:=λv hv=>by grind[qi8,F5]
 have td:ze.cells.toList.map jM=zr:=qfu;refine TG s k g1 hd1 hlt1 hop1 wm r5 gH zf hpos hb (λv hv=>(nz v hv).2) hx hxv hyv aM hn hm ?_;rw[td];exact aY
def Yn{c:Ctx}{a:Act}(s:Sim E.N c e a w)(k:E.ok c e.h w){o2:Oper}{x:Operand}{n j i:Nat}{S:List (List V)}
  (g1:o1.guard=none) (g2:o2.guard=none) (hd1:o1.dst=some d1) (hlt1:d1<E.N) (pG:o2.dst=none) (hop1:o1.op=.slice T x (some y) none none) (hop2:o2.op=.call { callee:=.builtin .clear,args:=#[.tmp d1],argTypes:=#[T] })
  (hT:nj P T=.slice el sz) (hel:nj P el≠.other) (hsize:oh P el=sz) (hpos:0<sz) (hzt:∀x,x∈o8 P el->x≠.top) (hzr:(o8 P el).map nM=zr)
  (hx:sn e true [x,y]) (hxv:e.getS x=.own i n) (hyv:e.getS y=.val (.int .i64 j)) (hi:e.h[i]?=some (.uarr el sz S)) (hn:S.length=n) (hj:j<=n)
  (aY:∀a' w',Sim E.N c (({ e with h:=e.h.set i (.uarr el sz (S.take j++List.replicate (n - j) zr)) }:Env).put o1.dst .top) a' w'->E.ok c (e.h.set i (.uarr el sz (S.take j++List.replicate (n - j) zr))) w'->wpList P om hu rest a' w') :
  wpList P om hu (o1::o2::rest) a w:=by
 obtain⟨iT,dT,zT,_,wm,_,aV,_⟩:=rk hT Z;obtain⟨rfl,ie,r5,bV⟩:=cH aV;obtain⟨ie',de,ze,wt,_,gH,vd,hts,htz,zf,zd⟩:=rk (P:=P) (t:=el) rfl hel;rw[r5]at wt;cases wt;subst bV;have nz:∀v,v∈ze.cells.toList->jM v=nM (bD v)/\uB v=true:=λv hv=>by grind[qi8,F5]
 have td:ze.cells.toList.map jM=zr:=qfu;have ss:=yh s hx x Z;rw[hxv]at ss;have hry:=yh s hx y Z;rw[hyv]at hry;have hvy:a.eval y=.int .i64 j:=hry.val_inv;obtain⟨hv,us,tp,u3,iA⟩:=Bb s.hs hi hn ss;have iH:(zeroValue el).run P w=.ok ze w:=qfv;have bS:d1<a.tmps.size:=qhs;have fin:∀(v1:Value) (w':World),(Instr.sliceAt T (a.eval x) (some (.int .i64 j)) none none).run P w=.ok v1 w->(Builtin.clear_ #[T] o2.type #[v1]).run P w=.ok (.tuple #[]) w' ->
   HSim c (e.h.set i (.uarr el ie.size (S.take j++List.replicate (n - j) zr))) w'->E.ok c (e.h.set i (.uarr el ie.size (S.take j++List.replicate (n - j) zr))) w'->wpList P om hu (o1::o2::rest) a w:=by
  intro v1 w' O U s1 k1;refine nX (hr:=true) cj (λ_=>?_) (λh=>by cases h);refine cL (w':=w) (v:=v1) (by simp only[execOp,hop1,hvy,kn,Option.map_none,iu,O,iv,je]) ?_;have hevd:(a.put o1.dst v1).eval (.tmp d1)=v1:=by rw[hd1];simp[Act.put,Act.eval,bS]
  refine nX (hr:=true) qhl (λ_=>?_) (λh=>by cases h);refine cL (w':=w') (v:=.tuple #[]) (by simp only[execOp,hop2,resolve,invoke,builtin,iu,je,iv,qjj,jd,kf,hevd,U]) ?_;rw[pG];exact aY _ w' (s.put (.refl c) s1 (λq hq=>by rw[hd1]at hq;cases hq;exact hlt1) (.top _)) k1
 have tj:∀(b:Option Addr) (cap:Nat),n<=cap->(Instr.sliceAt T (.slice b n cap) (some (.int .i64 j)) none none).run P w=.ok (.slice (if cap=j then b else b.map (·.add (j * ie.size))) (n - j) (cap - j)) w:=λb cap hc=>by have hnj:¬(n<j):=J;simp[Instr.sliceAt,Instr.slice,Instr.sliceBounds,Instr.sliceBound,asIntOf,vo wm,hj,hnj,eO r5]
 rcases tp.2 with⟨hnil,hn0⟩|⟨g,cap,nu,ug,hg0,hh,uh,r9,su,eS⟩
 .subst hn0;have hj0:j=0:=J;subst hj0;have hr0:S=[]:=ko hn;subst hr0;refine fin _ w (by rw[hnil];exact tj none 0 (gj _)) (by simp[Builtin.clear_,vo wm]) ?_ ?_
  .simp only[List.take_nil,kh,List.replicate_zero,jv];rw[fM hi];exact s.hs
  simp_all[List.take_nil,kh,List.replicate_zero,jv,fM]
 by_cases hjn:j=n
 .subst hjn;refine fin _ w (by rw[ug];exact tj _ cap uh) (by
   rw[kh];by_cases hq:cap=j
   .simp[hq,Builtin.clear_,vo wm]
   simp[hq,Builtin.clear_,vo wm]) ?_ ?_
  .simp only[kh,List.replicate_zero,jv];rw[ll J,fM hi];exact s.hs
  simp_all[kh,List.replicate_zero,jv,ll,fM]
 have ni:j<n:=J;have hcj:cap≠j:=J;have hmul:j * ie.size+(n - j) * ie.size=n * ie.size:=qgp;have CR:n * ie.size<=cap * ie.size:=jl _ uh;have hzc:(Builtin.zeroCells ze.cells (n - j)).size=(n - j) * ie.size:=by simp[Builtin.zeroCells,zf]
 have wb:∀q,q<(n - j) * ie.size->(Builtin.zeroCells ze.cells (n - j))[q]?=ze.cells[q % ie.size]?:=λq hq=>by unfold Builtin.zeroCells;grind[qik,ky]
 have tc:∀u∈(Builtin.zeroCells ze.cells (n - j)).toList,u.oneCell'=true:=λu Q=>by grind[iw]
 obtain⟨ac,hZ⟩:=Qaj (Builtin.zeroCells ze.cells (n - j))
 rw[hZ]at hzc wb tc;have r7:=qjp P g (j * ie.size) el ac.toList 0 nu w hh W tc;simp only[jt]at r7;have hadd:(⟨g,0,none⟩:Addr).add (j * ie.size)=⟨g,j * ie.size,none⟩:=by rw[cM,im]
 have hzl:zr.length=ie.size:=W;have hjm:min (j * ie.size) (cap * ie.size)=j * ie.size:=J;have hjm2:min (j * ie.size) (n * ie.size)=j * ie.size:=J;obtain⟨s1,k1⟩:=FP (E:=E) s.hs k (w':=w.setRow g (nu.toList.take (j * ie.size)++ac.toList++nu.toList.drop (j * ie.size+ac.toList.length)).toArray) (qq:=S.take j++List.replicate (n - j) zr) (us:=us.take (j * ie.size)++ac.toList) hi
  (by rw[hn,<-ug];exact hv) au (λr G=>by
   rcases jj.1 G with G|G
   .grind
   rw[List.eq_of_mem_replicate G];exact hzl)
  ⟨by rw[it,kc,tp.1,Array.length_toList,hzc,hn,hjm2];omega,.inr ⟨g,cap,_,by rw[hn],il _,qi1 w g nu _ el (0,0) hh,by rw[hn];exact uh,r9,by simp only[qi3,it,kc,qiw,Array.length_toList,hzc,su,hjm];omega,by
   rw[hn];have e1:nu.toList.take (j * ie.size)=us.take (j * ie.size):=W;simp only[e1];rw[qkd W,ll W]⟩⟩
  (λi' q r x G hx=>by
   by_cases O:i'<j
   .rw[gu au,jo,gh O]at G;obtain⟨u,Q,hd⟩:=iA i' q r x G hx;have hq:q<ie.size:=W;have U:(i'+1) * ie.size<=j * ie.size:=jl _ O;grind
   rw[gz au]at G;have tq:i' - (S.take j).length<n - j:=W;rw[qj6,gh tq]at G;cases G;have hq:q<ie.size:=W;rw[<-td,ja]at hx;obtain⟨u,Q,rfl⟩:=iy.1 hx;refine⟨u,?_,Hb (nz u (gw Q)).2⟩;have hm:(S.take j).length=j:=au;rw[hm]at tq;have h4:(i' - j) * ie.size+j * ie.size=i' * ie.size:=qgp;have h5:(i' - j+1) * ie.size<=(n - j) * ie.size:=jl _ tq;rw[kz,qi5]at h5;have h6:(us.take (j * ie.size)).length=j * ie.size:=W;have h8:j * ie.size<=i' * ie.size:=jl _ J;rw[gz J,h6,show i' * ie.size+q - j * ie.size=(i' - j) * ie.size+q by omega,kq,wb _ J];have h7:((i' - j) * ie.size+q) % ie.size=q:=qf1;rw[h7,<-kq];exact Q) rfl rfl rfl Z (λb hb _=>qje w g b _ hb)
 refine fin _ _ (by rw[ug];exact tj _ cap uh) (by
  rw[gg hcj];cases hq:n - j with
  |zero=>omega
  |succ q =>
   rw[hq]at hZ;simp only[Builtin.clear_,kn,hadd];simp[vo wm,iH,hZ,r7]) s1 k1
end
end
section
variable {P:Program} {E:Ent}
def qqy{c:Ctx}{h:mz}{w:World}(s:HSim c h w){i n el sz:Nat}{S:List (List V)}(hi:h[i]?=some (.oarr el sz S))(hn:S.length=n){v:Value}(G:Rel c (.own i n) v)
  (hd:∀r,r∈S->∀x,x∈r->(qL h x).isData=true):Rel (oY w) (.slice (S.map λr=>r.map (qL h))) v:=by
 obtain⟨hv,us,tp,u3,iA⟩:=Hv s hi hn G;obtain⟨_,_,_,_,_,_,h3,_⟩:=s.obj i _ hi;refine .data (KQ (c:=oY w) (λ_ _ _ h=>h) (by rw[ka,hn];exact tp) W (λr o6=>?_) (λi' j r x o6 hx=>?_))
 .grind
 rw[ja]at o6;obtain⟨r0,L,rfl⟩:=iy.1 o6;rw[ja]at hx;obtain⟨x0,vl,rfl⟩:=iy.1 hx;obtain⟨u,Q,pq,_⟩:=iA i' j r0 x0 L vl;exact⟨u,Q,DM (hd r0 (gw L) x0 (gw vl)) (Jq s pq)⟩
def M6{c:Ctx}{e:Env}{a:Act}{w:World}(s:Sim E.N c e a w)(k:E.ok c e.h w){om:Array Oper}{rest:List Oper}{o:Oper}{hu:Exit->Act->World->Prop}{f:Operand}{args:Array Operand}{ts:Array TypeId}(g:o.guard=none)(hd:iJ E.N o.dst)
  (ho:o.op=.call { callee:=.value f,args:=args,argTypes:=ts }) (nz:sn e true (f::args.toList)) {py:FuncId} (hf:e.getS f=.fn (.func py) [] []) (AV:Operand->V)
  (hv:∀y,y∈args.toList->∀v,Rel c (e.getS y) v->Rel (oY w) (AV y) v) {x:V} (hP:APure P py (args.toList.map AV) x) (hx:Cs x=true)
  (aY:∀a' w',Sim E.N c (e.put o.dst x) a' w'->E.ok c e.h w'->wpList P om hu rest a' w'):wpList P om hu (o::rest) a w:=by
 refine nX (hr:=true) (by simp[Region.wanted,g]) (λ_=>?_) (λh=>by cases h);have pq:=yh s nz;have bQ:=pq f Z;rw[hf]at bQ;have nZ:a.eval f=.func (.func py) #[] #[]:=by
  generalize a.eval f=hI at bQ;cases bQ with
  |data h=>cases h
  |fn f ys xs us vs w6 hl Y h =>
   have O:us = #[]:=Array.eq_empty_of_size_eq_zero w6;have U:vs = #[]:=Array.eq_empty_of_size_eq_zero hl;rw[O,U]
 have sF:RelL (oY w) (args.toList.map AV) (args.map a.eval):=by refine⟨Z,λj y v hy fB=>?_⟩;simp only[ja,iy]at hy;obtain⟨hI,hz,rfl⟩:=hy;simp only[mg,iy]at fB;obtain⟨z',hz',rfl⟩:=fB;have:z'=hI:=W;subst this;exact hv z' (gw hz) _ (pq z' W)
 have hA:=hP [];unfold Oper.wp;rw[Bc ho nZ hA.1];simp only[qjq,qj4];refine(hA.2 (oY w) w _ (QV w) sF).mono ?_;rintro en w' ⟨r,Y,c',⟨rfl,rfl⟩,hE,o9,qh⟩;have cG:∀b,b<w.heap.size->w'.heap[b]?=w.heap[b]?:=λb hb=>qh.frame b hb λi o hi=>by simp at hi
 cases en with
 |returned u =>
  have eH:Rel c' x u:=hE;have zy:=s.hs.ext cG (.refl c) (λ_ _=>rfl) (λ_ _ _ h=>.inl h) s.hs.dom;exact aY _ w' (s.put (.refl c) zy (Cx hd) (Kw hx eH)) (k.ext' s.hs cG (.refl c) (λ_=>rfl) qh.os qh.tape qh.output qh.size λ_ _ _ h=>.inl h)
 |_=>simp[EndR]at hE
end
end Go.Abs
namespace Go.Abs
theorem Pp{c:Ctx}{l:List Value}{vs:Array Value}(h:RelL c (l.map .val) vs):vs=l.toArray:=by
 apply Array.ext
 .simpa using h.1
 intro i O U;have h3:i<l.length:=J;have:=h.2 i (.val l[i]) vs[i] (by simp[h3]) dq;simpa using this.val_inv
def UO{P:Program}{f:FuncId}{l:List Value}{r:Value}(G:iU r=true)(he:yZ P f)(hc:∀w,Calls P f l.toArray w λe w'=>e=.returned r/\w'=w):APure P f (l.map .val) (.val r):=λh=>by refine⟨he,λc w vs hs ha=>?_⟩;rw[Pp ha];refine(hc w).mono ?_;rintro e w' ⟨rfl,rfl⟩;exact⟨.ret (.val r),h,c,⟨rfl,rfl⟩,.val r G,hs,.refl 0 hs⟩
section
variable {P:Program} {E:Ent}
section
variable{w:World}{xs:List V}{vs:Array Value}
def C5{c:Ctx}{h:mz}(s:HSim c h w)(k:E.ok c h w){i b:Nat}{f f':Array Value->Obj}(hi:h[i]?=some (.raw b f xs))(hv:w.heap[b]?=some (f vs))
  (iP:vs.size=xs.length/\∀(j:Nat) (x:V) (v:Value),xs[j]?=some x->vs[j]?=some v->Rel c x v) :
  HSim c (h.set i (.raw b f' xs)) (w.putObj b (f' vs))/\E.ok c (h.set i (.raw b f' xs)) (w.putObj b (f' vs)):=by
 obtain⟨hb,_⟩:=s.obj i _ hi;have hh:=hv;have ni:b<w.heap.size:=(qjg.1 hh).1;have vh:∀g,g≠b->(w.putObj b (f' vs)).heap[g]?=w.heap[g]?:=λg hg=>World.putObj_heap_other hg;have yW:(w.putObj b (f' vs)).heap[b]?=some (f' vs):=World.putObj_heap_same ni;have y8:ou c i (.raw b f xs)=some b:=hb;have hsize:(w.putObj b (f' vs)).heap.size=w.heap.size:=Z;have vn:∀j p b',(h.set i (.raw b f' xs))[j]?=some p->ou c j p=some b'->∃o0,h[j]?=some o0/\ou c j o0=some b':=λj p b' hj nl=>by
  rcases tk hj with⟨rfl,rfl⟩|⟨nv,O⟩
  .exact⟨_,hi,nl⟩
  grind
 constructor
 .refine⟨λg j v hD=>?_,λj hj=>s.dom j W,λj p hj=>?_,λj j' p p' b' hj uq qd rh=>?_,λj p b' m v hj qd hD=>?_⟩
  .have hg:g≠b:=λe=>by
    exact Qap
   exact Qaq
  .rcases tk hj with⟨rfl,rfl⟩|⟨nv,O⟩
   .exact⟨hb,vs,yW,iP⟩
   refine(s.obj j p O).keep (.refl c) (λ_=>rfl) λb' nl=>vh b' λe=>nv ?_;subst e;exact s.apart j i p _ b' O hi nl y8
  .obtain⟨o1,O,s7⟩:=vn j p b' hj qd;obtain⟨o2,U,cY⟩:=vn j' p' b' uq rh;exact s.apart j j' o1 o2 b' O U s7 cY
  rcases tk hj with⟨rfl,rfl⟩|⟨nv,O⟩
  .have:=s.sep j (.raw b f xs) b' m v hi qd hD;exact this
  exact s.sep j p b' m v O qd hD
 refine⟨k.edom,k.ext,k.blk0,bu,k.os,k.tape,k.output,qgm,λg hg qz=>?_,λj p b' hj qd=>?_,k.dold⟩
 .have nv:g≠b:=λe=>by
   subst e;rcases k.newobj i _ g hi y8 with⟨i0,o0,L,O⟩|U
   .grind
   omega
  exact Qat
 obtain⟨o1,O,s7⟩:=vn j p b' hj qd;exact k.newobj j o1 b' O s7
def Rl{c:Ctx}{h:mz}(s:HSim c h w)(k:E.ok c h w)(f:Array Value->Obj)
  (iP:vs.size=xs.length/\∀(j:Nat) (x:V) (v:Value),xs[j]?=some x->vs[j]?=some v->Rel c x v) :
  ∃c',c.le c'/\HSim c' (h++[.raw w.heap.size f xs]) (w.alloc (f vs))/\E.ok c' (h++[.raw w.heap.size f xs]) (w.alloc (f vs)):=by
 have hw:∀b,b<w.heap.size->(w.alloc (f vs)).heap[b]?=w.heap[b]?:=λb hb=>jO w _ b hb;have s1:HSim c h (w.alloc (f vs)):=s.ext hw (.refl c) (λ_ _=>rfl) (λ_ _ _ h=>.inl h) s.dom;have k1:E.ok c h (w.alloc (f vs)):=k.ext' s hw (.refl c) (λ_=>rfl) rfl rfl rfl (sV w _) (λ_ _ _ h=>.inl h);have nh:c.le (c.addBlk h.length w.heap.size):=Ctx.addBlk_le (s.dom h.length (gj _)).1;have y6:(c.addBlk h.length w.heap.size).blk h.length=some w.heap.size:=dw;have hb:∀b',ou (c.addBlk h.length w.heap.size) h.length (.raw w.heap.size f xs)=some b'->b'=w.heap.size:=λb' nl=>by grind[ou,js]
 exact⟨_,nh,s1.push (s.fresh (gj _)) (s.noD (gj _)) ⟨y6,vs,li w _,iP.1,λj x v hx hv=>(iP.2 j x v hx hv).mono nh⟩ hb,k1.push s1 k.size hb⟩
def WF(ro:Option Nat):Fence:={ Fence.wide with round:=ro }
def KL{ro:Option Nat}{n:Nat}{f:FuncId}{args:Array Value}{R:Ending->World->Prop}:CallsIn (WF ro) n P f args w R↔Calls P f args w R :=
 (show CallsIn (WF ro) n P f args w R↔CallsIn Fence.wide n P f args w R from Iff.rfl).trans callsIn_wide
def XV{ro:Option Nat}{n:Nat}{row:String}{args:Array Value}{R:Value->World->Prop}(h:Rows P row args w R):RowsIn (WF ro) n P row args w R:=λc cs _=>by obtain⟨v,w',hR,hs⟩:=h c cs;exact⟨v,w',hR,(stepsIn_wide (P:=P)).2 hs⟩
def wM:Op->Bool
 | .defer _=>true
 |_=>false
def IS{ro:Option Nat}{n:Nat}{o:Oper}(hd:wM o.op=false){a:Act}{nx:Act->World->Prop}{hu:Exit->Act->World->Prop}(h:o.wp P a w nx hu):o.wpIn (WF ro) n P a w nx hu:=by
 refine⟨λ_ _=>trivial,?_⟩;rw[Oper.semAt_eq _ _ _ (λc hc=>by rw[hc]at hd;cases hd)];unfold Oper.wp at h;generalize(execOp a.eval o).run P w=r at h|-;cases r with
 |ok x w' =>
  cases x with
  |value v=>exact h
  |skip=>exact h
  |defer d=>exact h
  |enter f args=>exact⟨λh=>di,KL.2 (h.mono λe w'' he=>by cases e<;>exact he)⟩
  |row r args=>exact⟨λh=>di,XV h⟩
  |_=>exact h.elim
 |halt x w'=>cases x<;>first|exact h|exact h.elim
def Kr{ro:Option Nat}{n:Nat}{om:Array Oper}{hu:Exit->Act->World->Prop}(hQ:¬LetsOut hu):∀{l:List Oper} {a:Act} {w:World},(l.all λo=>!wM o.op)=true->wpList P om hu l a w->wpListIn (WF ro) n P om hu l a w
 | [],_,_,_,h=>h
 |o::l,a,w,hd,h=>by
  simp only[qin,gy,mh]at hd;unfold wpList at h;unfold wpListIn;split at h
  .rename_i hw;rw[gh hw];rcases h with h|⟨_,h⟩
   .exact Oper.wpIn_mono (λa w hh=>Kr hQ hd.2 hh) (IS hd.1 h)
   grind
  rename_i hw;rw[gg hw];exact⟨λ_ _=>trivial,Kr hQ hd.2 h⟩
def FK{ro:Option Nat}{n:Nat}{om:Array Oper}{hu:Exit->Act->World->Prop}(hQ:¬LetsOut hu)(hd:∀(i:Nat) (o:Oper),om[i]?=some o->wM o.op=false):∀{qm:Nat} {h0:Array Bool} {a:Act} {w:World},wpAny P .any om hu qm h0 a w->wpAnyIn (WF ro) n P .any om hu qm h0 a w
 | 0,_,_,_,h=>h
 |qm+1,h0,a,w,h=>by
  refine⟨h.1,λi hi=>?_⟩;have O:=h.2 i hi;unfold wpOp at O;unfold wpOpIn;split at O
  .rename_i ho;rw[ho];exact FK hQ hd O
  rename_i o ho;rw[ho];simp only;split at O
  .rename_i hw;rw[gh hw];rcases O with O|⟨_,O⟩
   .exact Oper.wpIn_mono (λa w hh=>FK hQ hd hh) (IS (hd i o ho) O)
   grind
  rename_i hw;rw[gg hw];exact⟨λ_ _=>trivial,FK hQ hd O⟩
def EZ(E:Ent)(hu:AExit->List Deferred->Env->Prop):Exit->Act->World->Prop:=λx a w=>∃x' ds e c a0,a=ub ds a0/\hu x' ds e/\XR c x' x/\Sim E.N c e a0 w/\E.ok c e.h w
def SL{hu:AExit->List Deferred->Env->Prop}:¬LetsOut (EZ E hu):=λ⟨a,w,x',ds,e,c,a0,_,_,hx,_⟩=>by cases x'<;>exact hx
def HM{hu:AExit->List Deferred->Env->Prop}{ds:List Deferred}{x:Exit}{a:Act}(h:kI E (λx e=>hu x ds e) x a w):EZ E hu x (ub ds a) w:=by obtain⟨x',e,c,hq,hx,s,k⟩:=h;exact⟨x',ds,e,c,a,rfl,hq,hx,s,k⟩
def wv(P:Program)(E:Ent)(ro:Option Nat)(code:Code)(hu:AExit->List Deferred->Env->Prop)(ds:List Deferred)(e:Env):Prop :=
 ∀n c a w,Sim E.N c e a w->E.ok c e.h w->code.wpIn (WF ro) n P (EZ E hu) (ub ds a) w
def Ak(K:List Deferred->Env->Prop)(hu:AExit->List Deferred->Env->Prop):AExit->List Deferred->Env->Prop
 | .normal,ds,e=>K ds e
 |x,ds,e=>hu x ds e
def EO(id:Nat)(hu:AExit->List Deferred->Env->Prop):AExit->List Deferred->Env->Prop
 | .exit i,ds,e=>if i=id then hu .normal ds e else hu (.exit i) ds e
 |x,ds,e=>hu x ds e
end
variable {ro:Option Nat} {hu:AExit->List Deferred->Env->Prop} {ds:List Deferred} {e:Env}
section
variable{code:Code}{id:Nat}{ι:Type}
def FR{Q':AExit->List Deferred->Env->Prop}(h:wv P E ro code Q' ds e)(hq:∀x ds e,Q' x ds e->hu x ds e):wv P E ro code hu ds e:=λn c a w s k =>
 wpIn_mono (h n c a w s k) λ_ _ _ ⟨x',aU,e',c',a0,O,U,h3⟩=>⟨x',aU,e',c',a0,O,hq _ _ _ U,h3⟩
def Tz{e1:Env}(hw:Wk E e e1)(h:wv P E ro code hu ds e1):wv P E ro code hu ds e:=λn c a w s k=>by obtain⟨c1,s1,k1⟩:=hw c a w s k;exact h n c1 a w s1 k1
def N3(h:hu .normal ds e):wv P E ro .skip hu ds e:=λn c a w s k=>wpIn_skip ⟨.normal,ds,e,c,a,rfl,h,trivial,s,k⟩
theorem Iw(h:hu .ret ds e):wv P E ro .ret hu ds e:=λn c a w s k=>wpIn_ret ⟨.ret,ds,e,c,a,rfl,h,trivial,s,k⟩
def MT(h:hu (.exit id) ds e):wv P E ro (.exit id) hu ds e:=λn c a w s k=>wpIn_exit ⟨.exit id,ds,e,c,a,rfl,h,rfl,s,k⟩
def Dr{x y:Code}(h:wv P E ro x (Ak (λds e=>wv P E ro y hu ds e) hu) ds e):wv P E ro (.seq x y) hu ds e:=λn c a w s k=>by
 refine wpIn_seq (wpIn_mono (h n c a w s k) ?_);rintro ex a' w' ⟨x',aU,e',c',a0,rfl,hq,hx,o9,ok'⟩;cases x' with
 |normal=>cases ex<;>simp only[XR]at hx;exact hq n c' a0 w' o9 ok'
 |exit i=>cases ex<;>simp only[XR]at hx;exact⟨.exit i,aU,e',c',a0,rfl,hq,hx,o9,ok'⟩
 |ret=>cases ex<;>simp only[XR]at hx;exact⟨.ret,aU,e',c',a0,rfl,hq,trivial,o9,ok'⟩
 |panic v =>
  cases ex with
  |panic ch=>exact⟨.panic v,aU,e',c',a0,rfl,hq,hx,o9,ok'⟩
  |_=>simp only[XR]at hx
def Mk{b:Code}(h:wv P E ro b (EO id hu) ds e):wv P E ro (.block id b) hu ds e:=λn c a w s k=>by
 refine wpIn_block (wpIn_mono (h n c a w s k) ?_);rintro ex a' w' ⟨x',aU,e',c',a0,rfl,hq,hx,o9,ok'⟩;cases x' with
 |normal=>cases ex<;>simp only[XR]at hx;exact⟨.normal,aU,e',c',a0,rfl,hq,trivial,o9,ok'⟩
 |exit i =>
  cases ex with
  |exit j =>
   simp only[XR]at hx;subst hx;simp only[Exit.inBlock];simp only[EO]at hq;split
   .rename_i hi;rw[gh hi]at hq;exact⟨.normal,aU,e',c',a0,rfl,hq,trivial,o9,ok'⟩
   rename_i hi;rw[gg hi]at hq;exact⟨.exit i,aU,e',c',a0,rfl,hq,rfl,o9,ok'⟩
  |_=>simp only[XR]at hx
 |ret=>cases ex<;>simp only[XR]at hx;exact⟨.ret,aU,e',c',a0,rfl,hq,trivial,o9,ok'⟩
 |panic v =>
  cases ex with
  |panic ch=>exact⟨.panic v,aU,e',c',a0,rfl,hq,hx,o9,ok'⟩
  |_=>simp only[XR]at hx
def O2{x:Operand}{t f:Code}{b:Bool}(hb:e.get x=.val (.bool b))(ht:b=true->wv P E ro t hu ds e)(hf:b=false->wv P E ro f hu ds e):wv P E ro (.cond x t f) hu ds e :=
 λn c a w s k=>wpIn_cond_split (Rel.bool (hb▸s.eval x)) (λh=>ht h n c a w s k) (λh=>hf h n c a w s k)
def qpe{F:Fence}{n:Nat}{c:Code}{hu:Exit->Act->World->Prop}{a:Act}{w:World}(I:ι->Act->World->Prop)(μ:ι->Nat)(i0:ι)(h₀:I i0 a w)
  (round:∀i a w,I i a w->c.wpIn F n P (Exit.then (λa' w'=>∃j,I j a' w'/\μ j<μ i) hu) a w):(Code.loop c).wpIn F n P hu a w:=by
 intro b k cs hro hb G;have key:∀m i a w,μ i=m->I i a w ->
   ∃e a' w',hu e a' w'/\ArrivesIn (Machine.fenced P F) P (lone (b.atR a (.code c::.inLoop c::k)) cs w) b k cs e a' w':=by
  intro m
  induction m using Nat.strongRecOn with
  |_ m ih =>
   intro i a w hn z;obtain⟨e,a₁,w₁,hq,kO⟩:=round i a w z b (.inLoop c::k) cs hro hb G;cases e with
   |normal =>
    obtain⟨j,hI₁,ni⟩:=hq;obtain⟨e₂,a₂,w₂,hq₂,harr₂⟩:=ih (μ j) (hn▸ni) j a₁ w₁ rfl hI₁;exact⟨e₂,a₂,w₂,hq₂,.of_steps (StepsIn.trans kO (.one (fenced_calm hb G rfl) stepR_inLoop)) harr₂⟩
   |exit id=>exact⟨_,a₁,w₁,hq,.pass (x:=.inLoop c) rfl (λ_ _=>.inl Z) kO⟩
   |goto l=>exact⟨_,a₁,w₁,hq,.pass (x:=.inLoop c) rfl (λ_ _=>.inl Z) kO⟩
   |ret=>exact⟨_,a₁,w₁,hq,.pass (x:=.inLoop c) rfl (λ_ _=>.inl Z) kO⟩
   |panic ch=>exact⟨_,a₁,w₁,hq,.pass (x:=.inLoop c) rfl (λ_ _=>.inl Z) kO⟩
   |outgrown=>exact⟨_,a₁,w₁,hq,.pass (x:=.inLoop c) rfl (λ_ _=>.inl Z) kO⟩
 obtain⟨e,a',w',hq,kO⟩:=key _ i0 a w rfl h₀;exact⟨e,a',w',hq,.of_steps (.one (fenced_calm hb G rfl) stepR_loop) kO⟩
def I0{b:Code}(I:ι->Prop)(my:ι->List Deferred×Env)(μ:ι->Nat)(i0:ι)(L:I i0)(hd:ds=(my i0).1)(hw:Wk E e (my i0).2)
  (round:∀i,I i->wv P E ro b (Ak (λaU e'=>∃j,I j/\μ j<μ i/\aU=(my j).1/\Wk E e' (my j).2) hu) (my i).1 (my i).2):wv P E ro (.loop b) hu ds e:=λn c a w s k=>by
 subst hd;refine qpe (ι:=ι) (λi a w=>I i/\∃c a0,a=ub (my i).1 a0/\Sim E.N c (my i).2 a0 w/\E.ok c (my i).2.h w) μ i0 ?_ ?_
 .obtain⟨c1,s1,k1⟩:=hw c a w s k;grind
 rintro i a w ⟨z,c,a0,rfl,s,k⟩;refine wpIn_mono (round i z n c a0 w s k) ?_;rintro ex a' w' ⟨x',aU,e',c',a1,rfl,hq,hx,o9,ok'⟩;cases x' with
 |normal =>
  cases ex<;>simp only[XR]at hx;obtain⟨j,hj,ni,rfl,hwk⟩:=hq;obtain⟨c2,s2,k2⟩:=hwk c' a1 w' o9 ok';exact⟨j,⟨hj,c2,a1,rfl,s2,k2⟩,ni⟩
 |exit i=>cases ex<;>simp only[XR]at hx;exact⟨.exit i,aU,e',c',a1,rfl,hq,hx,o9,ok'⟩
 |ret=>cases ex<;>simp only[XR]at hx;exact⟨.ret,aU,e',c',a1,rfl,hq,trivial,o9,ok'⟩
 |panic v =>
  cases ex with
  |panic ch=>exact⟨.panic v,aU,e',c',a1,rfl,hq,hx,o9,ok'⟩
  |_=>simp only[XR]at hx
def qps{l:List Oper}(hd:(l.all λo=>!wM o.op)=true)(h:iB P E.N (λx e=>hu x ds e) [] l e):wv P E ro (.region id l.toArray false) hu ds e:=λn c a w s k =>
 wpIn_region_list (Kr SL hd (DQ (λ_ _ _ hh=>HM hh) (by simpa using uE l [] e Z W c a w s k)))
end
end
section
variable {P:Program} {E:Ent}
section
variable{o:Oper}{w:World}{f:Operand}{ts:Array TypeId}
def AYield(P:Program)(l:Nat)(args:List V)(h:mz)(R:AEnd->mz->Prop):Prop :=
 ∀(m:Nat) (c:Ctx) (w:World) (vs:Array Value),HSim c h w->RelL c args vs ->
  YieldAt (WF none) m P l vs w λe w'=>∃r Y c',R r Y/\EndR c' r e/\HSim c' Y w'/\(⟨0,c,h,w⟩:Ent).ok c' Y w'
theorem U5{ev:Operand->Value}{args:Array Operand}(ho:o.op=.call { callee:=.value f,args:=args,argTypes:=ts }){l:Nat}
  (hf:ev f=.func (.yield l) #[] #[]):(execOp ev o).run P w=(Instr.yield l (args.map ev)).run P w:=by
 simp[execOp,ho,resolve,hf,Deferred.ofValue,invoke,iu,je,iv]
def qpr{c:Ctx}{e:Env}{a:Act}(s:Sim E.N c e a w)(k:E.ok c e.h w){ds:List Deferred}{args:Array Operand}(ho:o.op=.call { callee:=.value f,args:=args,argTypes:=ts })
  (nz:sn e true (f::args.toList)) {l:Nat} (hf:e.getS f=.fn (.yield l) [] []) {R:AEnd->mz->Prop} (hy:AYield P l (qu e.h (args.toList.map e.getS)) e.h R) {n:Nat} {nx:Act->World->Prop} {hu:Exit->Act->World->Prop}
  (fQ:∀v Y c' w' u,R (.ret v) Y->c.le c'->HSim c' Y w'->E.ok c' Y w'->Rel c' v u->nx ((ub ds a).put o.dst u) w') (Cb:∀v Y,R (.panic v) Y->False):o.wpIn (WF none) n P (ub ds a) w nx hu:=by
 have pq:=yh s nz;have bQ:=pq f Z;rw[hf]at bQ;have nZ:a.eval f=.func (.yield l) #[] #[]:=by
  generalize a.eval f=hI at bQ;cases bQ with
  |data h=>cases h
  |fn f ys xs us vs w6 hl Y h =>
   grind
 have sF:RelL c (args.toList.map e.getS) (args.map a.eval):=RelL.map λx hx=>pq x be;have Ee:=sF.norm s.hs;obtain⟨s1,k1⟩:=BE s.hs k;refine⟨λ_ _=>trivial,?_⟩;show o.uponIn (WF none) n P (ub ds a) nx hu ((o.semAt none (ub ds a).eval).run P w);have hev':(ub ds a).eval=a.eval:=rfl;rw[Oper.semAt_none,hev',U5 ho nZ];obtain⟨fn,tmps,rn,body,O,U⟩:=hy (n - 1) _ w _ s1 Ee;rw[O];refine⟨λh=>di,U.mono ?_⟩;rintro en w' ⟨r,Y,c',hR,hE,o9,qh⟩;have nh:c.le c':=(BA c e.h w).trans qh.ext;have pg:E.ok c' Y w':=k1.trans qh;cases r with
 |ret x=>cases en<;>simp only[EndR]at hE;exact fQ x Y c' w' _ hR nh o9 pg hE
 |panic x=>exact(Cb _ _ hR).elim
def KH(P:Program)(N:Nat)(hu:AExit->Env->Prop)(ds:List (Option Tmp))(o:Oper)(e:Env)(K:Env->Prop):Prop :=
 match o.op with
 | .call { callee:=.value f,args,.. }=>match e.getS f with
  | .fn (.yield l) [] []=>o.guard=none/\iJ N o.dst/\sn e true (f::args.toList)/\AYield P l (qu e.h (args.toList.map e.getS)) e.h λr Y=>match r with
   | .ret v=>K (({ e with h:=Y }:Env).put o.dst v)
   | .panic _=>False
  |_=>stepG P N hu ds o e K
 |_=>stepG P N hu ds o e K
def xU(P:Program)(N:Nat)(hu:AExit->Env->Prop):List (Option Tmp)->List Oper->Env->Prop
 |_,[],e=>hu .normal e
 |ds,o::l,e=>KH P N hu ds o e (xU P N hu (ds++[o.dst]) l)
end
variable {hu:AExit->List Deferred->Env->Prop} {ds:List Deferred} {e:Env}
theorem PH(a:Act)(t:Option Tmp)(v:Value):(ub ds a).put t v=ub ds (a.put t v):=by cases t<;>rfl
def Oj{n:Nat}{om:Array Oper}:∀(l:List Oper) (done:List Oper) (e:Env),om.toList=done++l->(l.all λo=>!wM o.op)=true->xU P E.N (λx e=>hu x ds e) (done.map (·.dst)) l e ->
  ∀c a w,Sim E.N c e a w->E.ok c e.h w->wpListIn (WF none) n P om (EZ E hu) l (ub ds a) w
 | [],done,e,_,_,h,c,a,w,s,k=>⟨.normal,ds,e,c,a,rfl,h,trivial,s,k⟩
 |o::l,done,e,dD,hd,h,c,a,w,s,k=>by
  simp only[qin,gy,mh]at hd;have ih:=λe'=>Oj (n:=n) (om:=om) l (done++[o]) e' W hd.2;simp only[jr,jd,kf]at ih;simp only[xU]at h;have plain:stepG P E.N (λx e=>hu x ds e) (done.map (·.dst)) o e (xU P E.N (λx e=>hu x ds e) (done.map (·.dst)++[o.dst]) l)->wpListIn (WF none) n P om (EZ E hu) (o::l) (ub ds a) w:=λh=>by
   have O:=D3 (SI h) (λhr hG=>CL dD s hG) s k (nx:=λa' w'=>∃e' c',xU P E.N (λx e=>hu x ds e) (done.map (·.dst)++[o.dst]) l e'/\Sim E.N c' e' a' w'/\E.ok c' e'.h w') λe' c' a' w' hK s' k'=>⟨e',c',hK,s',k'⟩
   unfold wpListIn;have e1:(ub ds a).tmps=a.tmps:=rfl;rw[e1];split at O
   .rename_i hw;rw[gh hw];have no:¬LetsOut (kI E (λx e=>hu x ds e)):=λ⟨a,w,x',e,c,_,hx,_⟩=>by cases x'<;>exact hx
    rcases O with O|⟨_,O⟩
    .refine Oper.wpIn_mono (λa' w' hh=>?_) (IS hd.1 (Qx (d:=ds) O (Hp:=λa' w'=>∃a0,a'=ub ds a0/\∃e' c',xU P E.N (λx e=>hu x ds e) (done.map (·.dst)++[o.dst]) l e'/\Sim E.N c' e' a0 w'/\E.ok c' e'.h w') (λa' w' hh=>⟨a',rfl,hh⟩) (λ_ _ _ hh=>HM hh)))
     obtain⟨a0,rfl,e',c',hK,s',k'⟩:=hh;grind
    grind
   rename_i hw;rw[gg hw,PH];obtain⟨e',c',hK,s',k'⟩:=O;exact⟨λ_ _=>trivial,ih e' hK c' _ w s' k'⟩
  obtain⟨dst,op,ty,nk,after,guard⟩:=o;cases op with
  |call cl =>
   obtain⟨callee,args,ats⟩:=cl;cases callee with
   |value f =>
    unfold KH at h;simp only at h;split at h
    .rename_i lp hf;obtain⟨rfl,dU,nz,hy⟩:=h;unfold wpListIn;rw[gh (by simp[Region.wanted])];refine qpr s k rfl nz hf hy (λv Y c' w' u hR nh o9 qh iW=>?_) λv Y hR=>hR;rw[PH];exact ih _ hR c' _ w' (s.put nh o9 (Cx dU) iW) (by cases dst<;>exact qh)
    grind
   |_=>exact plain h
  |_=>exact plain h
def Qz{id:Nat}{l:List Oper}(hd:(l.all λo=>!wM o.op)=true)(h:xU P E.N (λx e=>hu x ds e) [] l e):wv P E none (.region id l.toArray false) hu ds e:=λn c a w s k =>
 wpIn_region_list (by simpa using Oj (n:=n) (om:=l.toArray) l [] e Z hd W c a w s k)
def bK(st:LoopState)(pe:Option Code)(fn:FuncId)(ps:Array Tmp)(rn body:Code)(D:Nat)(tm:Array Value):Obj:=.loop { state:=st,pending:=pe,fn,tmps:=tm,params:=ps,assign:=rn,body,defers:=D }
def uj(D:Nat):AObj:=.raw D (λ_=>.deferred (some [])) []
def mD(D:Nat):Deferred:={ target:=.collected D,args:=#[] }
def slots(N:Nat)(e:Env):List V:=(List.range N).map (oz e.t)
def qny{N:Nat}{c:Ctx}{a:Act}{w:World}(s:Sim N c e a w):a.tmps.size=(slots N e).length/\∀(j:Nat) (x:V) (v:Value),(slots N e)[j]?=some x->a.tmps[j]?=some v->Rel c x v :=
 ⟨by simp[slots,s.size],λj x v hx hv=>by
  simp only[slots,ja,List.getElem?_range']at hx;rw[iy]at hx;obtain⟨j',O,rfl⟩:=hx;have:j'=j:=W;subst this;have:=s.tmps j'
  rwa [jq,hv]at this⟩
set_option maxHeartbeats 400000 in
def PC{g:Operand}{ps:Array Tmp}{rn body:Code}{gf:FuncId}{pk:List V}(hg:e.get g=.fn (.func gf) [] pk)
  (h:∀(fn:FuncId) (D l:Nat),ACalls P gf (qu (e.h++[uj D,.raw l (bK .ready none fn ps rn body D) (slots E.N e)]) ([.fn (.yield l) [] []]++pk)) (e.h++[uj D,.raw l (bK .ready none fn ps rn body D) (slots E.N e)]) λr Y =>
   (∃v,r=.ret v)/\∃st pe,st≠.busy/\Y[e.h.length+1]?=some (.raw l (bK st pe fn ps rn body D) (slots E.N e)) /\
    match pe with
    |none=>hu .normal (mD D::ds) ⟨e.t,Y.set (e.h.length+1) (.raw l (bK .exhausted none fn ps rn body D) (slots E.N e))⟩
    |some c=>wv P E none c hu (mD D::ds) ⟨e.t,Y.set (e.h.length+1) (.raw l (bK .exhausted pe fn ps rn body D) (slots E.N e))⟩) :
  wv P E none (.rangeFunc g ps rn body) hu ds e:=λn c a w s k=>by
 refine wpIn_rangeFunc λfn _=>?_;have hgr:=s.eval g;rw[hg]at hgr;obtain⟨vs,nZ,CR⟩:∃vs,a.eval g=.func (.func gf) #[] vs/\RelL c pk vs:=by
  generalize a.eval g=hI at hgr;cases hgr with
  |data h=>cases h
  |fn f ys xs us vs w6 hl Y h =>
   simp only[ju,Array.size_eq_zero_iff]at w6;subst w6;exact⟨vs,rfl,⟨hl,h⟩⟩
 obtain⟨c1,l1,s1,k1⟩:=Rl s.hs k (λ_=>.deferred (some [])) (xs:=[]) (vs:=#[]) ⟨rfl,λj x v hx=>by simp at hx⟩;have sr:=qny s;obtain⟨c2,l2,s2,k2⟩:=Rl s1 k1 (bK .ready none fn ps rn body w.heap.size) (xs:=slots E.N e) (vs:=a.tmps) ⟨sr.1,λj x v hx hv=>(sr.2 j x v hx hv).mono l1⟩;have hH:e.h++[AObj.raw w.heap.size (λ_=>.deferred (some [])) []]++[AObj.raw (w.alloc (Obj.deferred (some []))).heap.size (bK .ready none fn ps rn body w.heap.size) (slots E.N e)]=e.h++[uj w.heap.size,.raw (w.heap.size+1) (bK .ready none fn ps rn body w.heap.size) (slots E.N e)]:=by simp[uj]
 rw[hH]at s2 k2;have nh:=l1.trans l2;have hc:=h fn w.heap.size (w.heap.size+1);have pq:RelL c2 ([.fn (.yield (w.heap.size+1)) [] []]++pk) (#[.func (.yield (w.heap.size+1)) #[] #[]]++vs):=RelL.app ⟨rfl,λj x v hx hv=>by
  match j with
  | 0=>simp at hx hv;subst hx;subst hv;exact .fn _ [] [] #[] #[] rfl rfl Z Z
  |j+1=>simp at hx⟩ ⟨CR.1,λj x v hx hv=>(CR.2 j x v hx hv).mono nh⟩
 have lK:=hc.2 _ _ _ s2 (pq.norm s2);have hen:=run_enterLoop_outer (P:=P) (w:=w) fn (ub ds a).tmps ps rn body;obtain⟨W2,hW2⟩:∃W2,W2=(w.alloc (.deferred (some []))).alloc (bK .ready none fn ps rn body w.heap.size a.tmps):=⟨_,rfl⟩
 have hen':(Instr.enterLoop fn (ub ds a).tmps ps rn body (WF none).round).run P w=.ok (w.heap.size+1,[mD w.heap.size]) W2:=by rw[hW2];exact hen
 rw[<-hW2]at lK;clear hen s2 k1 s1;have hev1:(ub ds a).eval=a.eval:=rfl;have hres:(resolve (ub ds a).eval (rangeCall g (w.heap.size+1)) 0).run P W2=.ok { target:=.fn (.func gf) vs,args:=#[.func (.yield (w.heap.size+1)) #[] #[]] } W2:=by simp only[rangeCall,resolve,hev1,nZ,Deferred.ofValue,je];simp[Act.eval]
 obtain⟨fnn,e1,e2,e3⟩:=hc.1;have hb:fnn.body.isNone=false:=cy;have hinv:(invoke (.fn (.func gf) vs) #[.func (.yield (w.heap.size+1)) #[] #[]]).run P W2=.ok (.enter gf (#[.func (.yield (w.heap.size+1)) #[] #[]]++vs)) W2:=by simp only[invoke,callFunc,iu,je,iv,run_program,e1,e3,hb,qjf,jg]
 rw[<-hW2]at k2;refine⟨_,_,_,_,_,_,_,_,hen',hres,λ_ _=>trivial,hinv,λh=>di,?_⟩;refine KL.2 ?_;refine lK.mono ?_;rintro en w3 ⟨r,Y,c',⟨⟨v,rfl⟩,st,pe,r7,hrec,hQ⟩,hE,o9,qh⟩;cases en<;>simp only[EndR]at hE;obtain⟨hb,tm,htm,p6,u3⟩:=o9.obj _ _ hrec;have hend:=run_endLoop (P:=P) htm r7;have pg:E.ok c' Y w3:=k2.trans qh;have hle':c.le c':=nh.trans qh.ext;obtain⟨s4,k4⟩:=C5 (f':=bK .exhausted pe fn ps rn body w.heap.size) o9 pg hrec htm ⟨p6,u3⟩;have act:({ ub ds a with defers:=[mD w.heap.size]++(ub ds a).defers }:Act)=ub (mD w.heap.size::ds) a:=by simp[ub,s.defers]
 refine⟨pe,_,hend,?_⟩;rw[act];cases pe with
 |none=>exact⟨.normal,_,⟨e.t,_⟩,c',a,rfl,hQ,trivial,⟨s.defers,s.size,λi=>(s.tmps i).mono hle',s4⟩,k4⟩
 |some cd=>exact hQ n c' a _ ⟨s.defers,s.size,λi=>(s.tmps i).mono hle',s4⟩ k4
end
section
variable {P:Program} {E:Ent}
def Xe(m:Nat){l:List Oper}{hu:AExit->Env->Prop}{e:Env}(hB:(decide (m<=l.length)&&uS (l.take m)&&tH m l)=true)
  (h:mO P E.N [] (l.take m) e [] λR e1=>ww (Region.before (l.take m).toArray) R/\vZ P E l.toArray (l.drop m) hu ⟨e1.t,xy R e1.h⟩) {c:Ctx} {a:Act} {w:World} (s:Sim E.N c e a w) (k:E.ok c e.h w) :
  wpAny P .any l.toArray (kI E hu) l.toArray.size (Array.replicate l.toArray.size false) a { w with drawn:=w.drawn+1 }:=by
 obtain⟨R,oy,nA,sB,hQ⟩:=Bv h;simp only[ke]at sB hQ;simp only[gy,jm]at hB;obtain⟨⟨zg,hB⟩,hT⟩:=hB;have d:DReg P E (l.take m) e R:=⟨Ct hB,oy,λk o ho=>by simpa using nA k o ho,λk s r r' i off cs G hk hs hks=>by simp only[ww,jk]at sB;have:=sB (r,k) W;simp only[hk,jk]at this;have:=this (r',s) W;simpa[hks]using this⟩
 have o9:HSim c e.h { w with drawn:=w.drawn+1 }:=s.hs.ext (λ_ _=>rfl) (.refl c) (λ_ _=>rfl) (λ_ _ _ h=>.inl h) s.hs.dom;have qh:E.ok c e.h { w with drawn:=w.drawn+1 }:=k.ext' s.hs (λ_ _=>rfl) (.refl c) (λ_=>rfl) rfl rfl rfl (gj _) (λ_ _ _ h=>.inl h);have cK:(λ_=>false)=λj=>(Array.replicate l.toArray.size false).getD j false:=by exact Qcq
 refine PT zg (D7 hT) d k.len (λc' a' w' s' k'=>?_) _ _ Z (λj _=>(congrFun cK j).symm) ?_ ?_ c a _ ?_
 .exact hQ c' a' w' s' k'
 .simp
 .exact Qcr
 exact Qcs
variable {ro:Option Nat} {hu:AExit->List Deferred->Env->Prop} {ds:List Deferred} {e:Env}
def qm4{id:Nat}(m:Nat){l:List Oper}(hm:P.follows .mixedOrders=true)(hB:(decide (m<=l.length)&&uS (l.take m)&&tH m l)=true)(hd:(l.all λo=>!wM o.op)=true)
  (h:xR P E.N [] (l.take m) e [] λR e1=>ww (Region.before (l.take m).toArray) R/\iB P E.N (λx e=>hu x [] e) ((l.take m).map (·.dst)) (l.drop m) ⟨e1.t,xy R e1.h⟩):wv P E ro (.region id l.toArray true) hu [] e:=λn c a w s k=>by
 have O:=Xe (P:=P) (E:=E) m hB (QR (CD h) λ_ _ hk=>⟨hk.1,uE (l.drop m) (l.take m) _ Z hk.2⟩) s k;have e0:ub [] a=a:=by simp[ub]
 rw[e0];refine wpIn_mono (wpIn_region_any hm (FK (by rintro⟨a,w,x',e,c,_,hx,_⟩;cases x'<;>exact hx) (λi o ho=>?_) O)) λx a' w' hh=>?_
 .grind
 have:=HM (hu:=hu) (ds:=[]) hh
 simp_all[ub]
def OZ(E:Ent)(kE l:Nat)(fn:FuncId)(ps:Array Tmp)(rn body:Code)(D:Nat)(xs:List V)(R:AEnd->mz->Prop):AExit->List Deferred->Env->Prop
 | .normal,_,e=>e.h[kE]?=some (.raw l (bK .busy none fn ps rn body D) xs)/\∃Y,Wk E ⟨[],e.h.set kE (.raw l (bK .ready none fn ps rn body D) xs)⟩ ⟨[],Y⟩/\R (.ret (.val (.bool true))) Y
 | .ret,_,e=>e.h[kE]?=some (.raw l (bK .busy none fn ps rn body D) xs)/\∃Y,Wk E ⟨[],e.h.set kE (.raw l (bK .done (some .ret) fn ps rn body D) xs)⟩ ⟨[],Y⟩/\R (.ret (.val (.bool false))) Y
 |_,_,_=>False
def RO{e e1:Env}{c:Ctx}{w:World}(hw:Wk E ⟨[],e.h⟩ ⟨[],e1.h⟩)(s:HSim c e.h w)(k:E.ok c e.h w):∃c1,HSim c1 e1.h w/\E.ok c1 e1.h w:=by
 have hw':Wk ⟨0,E.c,E.h,E.w⟩ ⟨[],e.h⟩ ⟨[],e1.h⟩:=λc a w s k=>by obtain⟨c1,s1,k1⟩:=hw c { tmps:=Array.replicate E.N undef,defers:=[] } w ⟨rfl,Z,λ_=>.top _,s.hs⟩ (k.withN E.N);exact⟨c1,⟨s.defers,s.size,λ_=>.top _,s1.hs⟩,k1.withN 0⟩
 obtain⟨c1,s1,k1⟩:=hw' c ⟨#[],[]⟩ w ⟨rfl,rfl,λ_=>.top _,s⟩ (k.withN 0);exact⟨c1,s1.hs,k1.withN E.N⟩
def RY{l kE:Nat}{fn:FuncId}{p:Tmp}{rn body:Code}{D:Nat}{xs:List V}{h:mz}(hidx:h[kE]?=some (.raw l (bK .ready none fn #[p] rn body D) xs)){x:V}(hp:p<xs.length){R:AEnd->mz->Prop}
  (aF:∀E:Ent,E.N=xs.length->E.h=h->hUnder h.length h=true->x.bd->x.under h.length=true->wv P E (some l) rn (Ak (λds e=>ds=[]/\e.h[kE]?=some (.raw l (bK .ready none fn #[p] rn body D) xs) /\
   wv P E (some l) body (OZ E kE l fn #[p] rn body D xs R) [] ⟨e.t,e.h.set kE (.raw l (bK .busy none fn #[p] rn body D) xs)⟩) (λ_ _ _=>False)) [] ⟨(p,x)::jI 0 xs,h⟩):AYield P l [x] h R:=λm c w vs hs ha=>by
 obtain⟨hb,tm,htm,p6,u3⟩:=hs.obj _ _ hidx;have hy:=run_yield (P:=P) (args:=vs) htm (by simp[ha.1]);refine⟨fn,_,rn,body,hy,?_⟩;obtain⟨v,rfl⟩:∃v,vs = #[v]:=by
  have:=ha.1
  match vs,this with
  |⟨[v]⟩,_=>exact⟨v,rfl⟩
 have hv:Rel c x v:=ha.2 0 x v rfl rfl;have e0:((#[p]:Array Tmp).zip #[v]).foldl (λtmps (t,a)=>tmps.setIfInBounds t a) tm=tm.setIfInBounds p v:=Z;refine roundIn_of_wpIn trivial ?_;rw[e0];show rn.wpIn (WF (some l)) m P _ _ _;have hE:=aF ⟨xs.length,c,h,w⟩ rfl rfl hs.hUnder hv.bd (hv.under hs.dom) m c { tmps:=tm.setIfInBounds p v,defers:=[] } w ⟨rfl,by simp[p6],λi=>?_,hs⟩ (Ent.ok.refl _ hs)
 .refine wpIn_mono hE ?_;rintro ex a' w1 ⟨x',aU,e',c1,a0,rfl,hq,hx,s1,k1⟩;cases x' with
  |normal =>
   cases ex<;>simp only[XR]at hx;obtain⟨rfl,kH,hq⟩:=hq;obtain⟨qd,tm1,htm1,hsz1,hrl1⟩:=s1.hs.obj _ _ kH;refine⟨_,run_beginRound htm1 rfl,?_⟩;obtain⟨s2,k2⟩:=C5 (f':=bK .busy none fn #[p] rn body D) s1.hs k1 kH htm1 ⟨hsz1,hrl1⟩;refine wpIn_mono (hq m c1 a0 _ ⟨s1.defers,s1.size,s1.tmps,s2⟩ k2) ?_;rintro ex a2 w2 ⟨x',aU,e2,c2,a0,rfl,hq,hx,s3,k3⟩;cases x' with
   |normal =>
    cases ex<;>simp only[XR]at hx;obtain⟨qE,Y,hwk,hR⟩:=hq;obtain⟨hb3,tm3,htm3,hsz3,hrl3⟩:=s3.hs.obj _ _ qE;obtain⟨s4,k4⟩:=C5 (f':=bK .ready none fn #[p] rn body D) s3.hs k3 qE htm3 ⟨hsz3,hrl3⟩;obtain⟨c5,s5,k5⟩:=RO (e:=⟨[],_⟩) (e1:=⟨[],Y⟩) hwk s4 k4;exact⟨_,_,run_endRound none htm3,.ret (.val (.bool true)),Y,c5,hR,.val _,s5,k5.withN 0⟩
   |ret =>
    cases ex<;>simp only[XR]at hx;obtain⟨qE,Y,hwk,hR⟩:=hq;obtain⟨hb3,tm3,htm3,hsz3,hrl3⟩:=s3.hs.obj _ _ qE;obtain⟨s4,k4⟩:=C5 (f':=bK .done (some .ret) fn #[p] rn body D) s3.hs k3 qE htm3 ⟨hsz3,hrl3⟩;obtain⟨c5,s5,k5⟩:=RO (e:=⟨[],_⟩) (e1:=⟨[],Y⟩) hwk s4 k4;exact⟨_,_,run_endRound (some .ret) htm3,.ret (.val (.bool false)),Y,c5,hR,.val _,s5,k5.withN 0⟩
   |exit i=>exact hq.elim
   |panic v=>exact hq.elim
  |exit i=>exact hq.elim
  |ret=>exact hq.elim
  |panic v=>exact hq.elim
 simp only[oz];by_cases hi:p=i
 .simp_all
 have:(p == i)=false:=qho;rw[this,lh,Fw,gh (il _),Nat.sub_zero];by_cases ni:i<xs.length
 .have e1:xs[i]?=some xs[i]:=ba;rw[e1];have hlt':i<tm.size:=J;have e2:(tm.setIfInBounds p v).getD i undef=tm[i]:=cy;rw[e2];exact u3 i _ _ e1 Z
 rw[lf J];exact .top _
def oQ:List (Nat×Nat)->mz->mz
 | [],h=>h
 |p::l,h=>oQ l (h.set p.1 (.raw p.2 (λ_=>.deferred none) []))
def RQ(P:Program)(rs:List ResultVar)(n0:Nat)(R:AEnd->mz->Prop):AExit->List Deferred->Env->Prop
 | .ret,ds,e| .normal,ds,e=>∃ms:List (Nat×Nat),ds=ms.map (λp=>mD p.2)/\(ms.map (·.1)).Nodup/\(∀p,p∈ms->e.h[p.1]?=some (uj p.2))/\zA P rs n0 R ⟨e.t,oQ ms e.h⟩
 |_,_,_=>False
def SE{N:Nat}:∀{ms:List (Nat×Nat)} {e:Env} {c:Ctx} {a:Act} {w:World},(ms.map (·.1)).Nodup->(∀p,p∈ms->e.h[p.1]?=some (uj p.2))->Sim N c e a w->E.ok c e.h w->∀{fn:Func} {tmps:Array Value} {R:Ending->World->Prop} {n:Nat},
  (∀w',Sim N c ⟨e.t,oQ ms e.h⟩ a w'->E.ok c (oQ ms e.h) w'->LeavesIn (WF none) n P fn tmps R [] .returning w')->LeavesInM (WF none) n P fn tmps R (ms.map λp=>mD p.2) .returning w
 | [],e,c,a,w,_,_,s,k,fn,tmps,R,n,hf=>hf w s k
 |p::ms,e,c,a,w,hn,hm,s,k,fn,tmps,R,n,hf=>by simp only[jd,l7]at hn;have hp:=hm p Z;obtain⟨hb,vs,hv,p6,u3⟩:=s.hs.obj _ _ hp;obtain⟨s1,k1⟩:=C5 (f':=λ_=>.deferred none) s.hs k hp hv ⟨p6,u3⟩;refine⟨Z,.inl ⟨p.2,_,rfl,run_takeDeferred hv,?_⟩⟩;refine SE (e:=⟨e.t,e.h.set p.1 (.raw p.2 (λ_=>.deferred none) [])⟩) hn.2 (λq hq=>?_) ⟨s.defers,s.size,s.tmps,s1⟩ k1 hf;have nv:p.1≠q.1:=λh=>hn.1 W;show(e.h.set p.1 _)[q.1]?=_;grind
def GH{f:FuncId}{fn:Func}{code:Code}{args:List V}{h:mz}{R:AEnd->mz->Prop}(hf:P.funcs[f]?=some fn)(hb:fn.body=some code)(aM:(fn.name == "runtime.NumGoroutine")=false)(B:args.length<=fn.ntmps)
  (body:∀E:Ent,E.N=fn.ntmps->E.h=h->hUnder h.length h=true->eL args->(∀o,o∈h->o.bd)->q9 h.length args=true->wv P E none code (RQ P fn.results.toList h.length R) [] ⟨jI 0 args,h⟩):ACalls P f args h R:=by
 refine KG (λqd rh hb3=>?_) ⟨fn,hf,fv,aM⟩;refine⟨⟨fn,hf,fv,aM⟩,λc w vs hs ha=>?_⟩;have ok0:=Ent.ok.refl fn.ntmps hs;have s0:=GM (N:=fn.ntmps) hs ha B;refine KL.1 (callsIn_of_wp_marks (F:=WF none) (n:=0) hf hb trivial ?_);have O:=body ⟨fn.ntmps,c,h,w⟩ rfl rfl hs.hUnder qd rh hb3 0 c _ w s0 ok0;have e0:∀a:Act,ub [] a=a:=λa=>by simp[ub]
 rw[e0]at O;refine wpIn_mono O ?_;rintro ex a' w' ⟨x',aU,e',c',a0,rfl,hq,hx,o9,ok'⟩;have fin:RQ P fn.results.toList h.length R .ret aU e'->LeavesInM (WF none) 0 P fn (ub aU a0).tmps (λe w'=>∃r Y c',R r Y/\EndR c' r e/\HSim c' Y w'/\(⟨0,c,h,w⟩:Ent).ok c' Y w') (ub aU a0).defers .returning w':=by
  rintro⟨ms,rfl,sP,hm,nq,r',Y,g1,g2,g3,g4,g5,hR⟩;have hd:(ub (ms.map λp=>mD p.2) a0).defers=ms.map λp=>mD p.2:=by simp[ub,o9.defers]
  rw[hd];refine SE (E:=⟨fn.ntmps,c,h,w⟩) sP hm o9 ok' λw2 s2 k2=>?_;obtain⟨v,hv,G⟩:=Gd (E:=⟨fn.ntmps,c,h,w⟩) (P:=P) s2 fn nq;obtain⟨c2,q1,q2,q3⟩:=Cf (E:=⟨fn.ntmps,c,h,w⟩) s2 k2 G g1 g2 g3 g4 g5;exact⟨v,hv,.ret r',Y,c2,hR,q3,q1,q2.withN 0⟩
 cases x' with
 |normal=>cases ex<;>simp only[XR]at hx;exact fin hq
 |exit i=>exact hq.elim
 |ret=>cases ex<;>simp only[XR]at hx;exact fin hq
 |panic x=>exact hq.elim
end
section
variable {P:Program} {E:Ent}
def K2{code:Code}{hu:AExit->List Deferred->Env->Prop}{e:Env}(h:AWp P E code (λx e=>hu x [] e) e):wv P E none code hu [] e:=λn c a w s k=>by
 have e0:∀a:Act,ub [] a=a:=λa=>by simp[ub]
 rw[e0];refine wpIn_mono ((wpIn_wide (n:=n)).2 (h c a w s k)) λx a' w' hh=>?_;have:=HM (hu:=hu) (ds:=[]) hh
 rwa [e0]at this
theorem AYield.mono{l:Nat}{args:List V}{h:mz}{R R':AEnd->mz->Prop}(k:AYield P l args h R)(G:∀r Y,R r Y->R' r Y):AYield P l args h R':=λm c w vs hs ha=>by obtain⟨fn,tmps,rn,body,O,U⟩:=k m c w vs hs ha;refine⟨fn,tmps,rn,body,O,U.mono ?_⟩;rintro e w' ⟨r,Y,c',hR,x⟩;exact⟨r,Y,c',G _ _ hR,x⟩
def SB(P:Program)(E:Ent)(ro:Option Nat)(c:Code)(hu:AExit->List Deferred->Env->Prop)(ds:List Deferred)(e:Env)(_:Tag (c,hu)):Prop:=wv P E ro c hu ds e
def AE(P:Program)(E:Ent)(ro:Option Nat):Code->(AExit->List Deferred->Env->Prop)->List Deferred->Env->Prop
 | .skip,hu,ds,e=>hu .normal ds e
 | .region _ om false,hu,ds,e=>(om.toList.all λo=>!wM o.op)=true/\iB P E.N (λx e=>hu x ds e) [] om.toList e
 | .seq a b,hu,ds,e=>AE P E ro a (Ak (AE P E ro b hu) hu) ds e
 | .cond x a b,hu,ds,e=>match e.get x with
  | .val (.bool c)=>wD c e (AE P E ro a hu ds) (AE P E ro b hu ds) ⟨⟩ ⟨⟩
  |_=>False
 | .block id b,hu,ds,e=>AE P E ro b (EO id hu) ds e
 | .exit id,hu,ds,e=>hu (.exit id) ds e
 | .ret,hu,ds,e=>hu .ret ds e
 |c,hu,ds,e=>SB P E ro c hu ds e ⟨⟩
def pM{ro:Option Nat}:∀(c:Code) (hu:AExit->List Deferred->Env->Prop) (ds:List Deferred) (e:Env),AE P E ro c hu ds e->wv P E ro c hu ds e
 | .skip,hu,ds,e,h=>N3 h
 | .region id om false,hu,ds,e,h=>by have:=qps (ro:=ro) (id:=id) (l:=om.toList) h.1 h.2;simpa using this
 | .region id om true,hu,ds,e,h=>h
 | .seq a b,hu,ds,e,h=>Dr (FR (pM a _ ds e h) λx aU e' hx=>by
   cases x with
   |normal=>exact pM b hu aU e' hx
   |_=>exact hx)
 | .cond x a b,hu,ds,e,h=>by
  simp only[AE]at h;split at h
  .rename_i c hx;exact O2 hx (λhc=>pM a hu ds e (h.1 hc)) (λhc=>pM b hu ds e (h.2 hc))
  grind
 | .block id b,hu,ds,e,h=>Mk (pM b _ ds e h)
 | .loop b,hu,ds,e,h=>h
 | .rangeFunc ..,hu,ds,e,h=>h
 | .exit id,hu,ds,e,h=>MT h
 | .scope b,hu,ds,e,h=>h
 | .label _,hu,ds,e,h=>h
 | .goto _,hu,ds,e,h=>h
 | .ret,hu,ds,e,h=>Iw h
 | .refuse _,hu,ds,e,h=>h
end
attribute [go_sem] AE Ak EO wM xU KH
end Go.Abs
namespace Go.Abs
open Go.Proofs Go.Shelf Go.Sort Go.Lib
section
variable {P:Program} {E:Ent}
section
variable{w:World}{g:Nat}{nu:Array Value}{l:List Int}
def NQ{e:TypeId}{d:Array Int}(hg:w.heap[g]?=some (.cells nu e (0,0))):(putRow (Value.int .i64) w g 0 d).heap[g]?=some (.cells (putCells (Value.int .i64) 0 d nu) e (0,0)) /\
  ∀b,b≠g->(putRow (Value.int .i64) w g 0 d).heap[b]?=w.heap[b]?:=by
 constructor
 .simp only[putRow,mapBlock,Array.getElem?_modify,iz,hg,kn,onCells]
 intro b hb;simp only[putRow,mapBlock,Array.getElem?_modify,gg (Ne.symm hb)]
abbrev iR(x:Int):List V:=[.val (.int .i64 x)]
def MD{c:Ctx}{us:List Value}(hl:us.length=l.length * 1)(h:∀(i j:Nat) (r:List V) (x:V),(l.map iR)[i]?=some r->r[j]?=some x->∃u,us[i * 1+j]?=some u/\DRel c.D x u):us=l.map (Value.int .i64):=by
 apply kp;intro k;rcases jz k l.length with hk|hk
 .obtain⟨u,Q,hd⟩:=h k 0 _ _ (by rw[ja,ii hk];rfl) rfl;rw[Nat.mul_one,jt]at Q;cases hd;rw[Q,ja,ii hk];rfl
 grind
def Om{D:Nat->Nat->Option Value}(l:List Int)(rest:List Value):∀(i j:Nat) (r:List V) (x:V),(l.map iR)[i]?=some r->r[j]?=some x->∃u,(l.map (Value.int .i64)++rest)[i * 1+j]?=some u/\DRel D x u:=λi j r x G hx=>by
 rw[ja]at G;obtain⟨hI,hz,rfl⟩:=iy.1 G;cases j with
 |succ j=>simp[iR]at hx
 |zero =>
  simp[iR]at hx;subst hx;have ni:=(gn.1 hz).1;exact⟨_,by rw[Nat.mul_one,jt,gu W,ja,hz];rfl,.val _ rfl rfl⟩
def RT{cap:Nat}{T:TypeId}(hh:w.heap[g]?=some (.cells nu T (0,0)))(eS:nu.toList.take (l.length * 1)=l.map (Value.int .i64))(zJ:nu.size=cap * 1)(uh:l.length<=cap):Holds (Value.int .i64) w g 0 l.toArray:=by
 intro j hj;have uq:j<l.length:=J;have e1:nu[j]?=some (.int .i64 l[j]):=by
  have:(nu.toList.take (l.length * 1))[j]?=(l.map (Value.int .i64))[j]?:=by rw[eS]
  rw[jo,gh J,kq,ja,ii uq]at this;exact this
 refine⟨?_,by simp[World.frozen?,hh]⟩;rw[cell_of_row _ _ _ _ _ _ hh,im,e1];simp[uq]
def qpc{ρ:Ren}(Ly:Lays.n189 P ρ)(hEn:yZ P (ρ.f 189)){h:mz}{i T:Nat}(hi:h[i]?=some (.uarr T 1 (l.map iR))) :
  ACalls P (ρ.f 189) [.own i l.length] h λr Y=>r=.ret (.tuple [])/\Y=h.set i (.uarr T 1 ((l.mergeSort λx y=>decide (x<=y)).map iR)):=by
 refine⟨hEn,λc w vs hs ha=>?_⟩;have iP:vs = #[vs[0]!]:=by
  have:=ha.1;apply Array.ext
  .omega
  grind
 obtain⟨v,rfl⟩:∃v,vs = #[v]:=⟨_,iP⟩
 have G:=ha.2 0 _ v rfl rfl;obtain⟨hv,us,tp,u3,iA⟩:=Bb hs hi Z G;have dF:us=l.map (Value.int .i64):=MD (by rw[tp.1]) iA;have zg:(l.mergeSort λx y=>decide (x<=y)).length=l.length:=List.length_mergeSort _;rcases tp.2 with⟨rfl,hn⟩|⟨g,cap,nu,rfl,_,hh,uh,r9,zJ,eS⟩
 .have eE:l=[]:=ko hn;subst eE;refine(Any.slices_Sort_int_none Ly none 0 w).mono ?_;rintro e w' ⟨rfl,rfl⟩;refine⟨_,_,c,⟨rfl,rfl⟩,.tuple [] #[] rfl Z,?_,?_⟩
  .grind[fM]
  have:(([]:List Int).mergeSort λx y=>decide (x<=y))=[]:=Z;rw[this,fM hi];exact .refl 0 hs
 have hH:=RT hh W zJ uh;have oy:l.length<=68719476736:=qg5;have hglt:g<w.heap.size:=(qjg.1 hh).1;refine(Any.slices_Sort_int Ly g 0 cap l w hH hglt J).mono ?_;rintro e w' ⟨rfl,n,os,rfl⟩;obtain⟨p1,p2⟩:=NQ (w:=Sort.ahead w n) (d:=(l.mergeSort λx y=>decide (x<=y)).toArray) hh;have hsize:(putRow (Value.int .i64) (Sort.ahead w n) g 0 (l.mergeSort λx y=>decide (x<=y)).toArray).heap.size=w.heap.size:=Z;have cG:∀b,b<w.heap.size->(grow (putRow (Value.int .i64) (Sort.ahead w n) g 0 (l.mergeSort λx y=>decide (x<=y)).toArray) os).heap[b]?=(putRow (Value.int .i64) (Sort.ahead w n) g 0 (l.mergeSort λx y=>decide (x<=y)).toArray).heap[b]?:=λb hb=>by simp only[grow];rw[qjr J]
 have zI:(putCells (Value.int .i64) 0 (l.mergeSort λx y=>decide (x<=y)).toArray nu).toList.take (l.length * 1)=(l.mergeSort λx y=>decide (x<=y)).map (Value.int .i64):=by
  apply kp;intro k;rw[jo];by_cases hk:k<l.length * 1
  .rw[gh hk,kq];have iY:k<nu.size:=J;have vk:k<(l.mergeSort λx y=>decide (x<=y)).length:=J;simp only[putCells,Array.getElem?_mapIdx,ky iY,kn,qi3,il,im,true_and,Nat.sub_zero,vk,iz,ja,ii vk];have hk3:(l.mergeSort λx y=>decide (x<=y))[k]?=some ((l.mergeSort λx y=>decide (x<=y))[k]'vk):=ii vk;simp[vk]
   first|done|(rw[hk3];rfl)
  grind
 obtain⟨s1,k1⟩:=FP (E:=⟨0,c,h,w⟩) hs (.refl 0 hs) (w':=grow (putRow (Value.int .i64) (Sort.ahead w n) g 0 (l.mergeSort λx y=>decide (x<=y)).toArray) os) (qq:=(l.mergeSort λx y=>decide (x<=y)).map iR)
  (us:=(l.mergeSort λx y=>decide (x<=y)).map (Value.int .i64)) hi qhn (by simp[zg]) Z
  ⟨by simp[zg],.inr ⟨g,cap,_,Z,il _,(cG g hglt).trans p1,by simpa using uh,r9,by simp[putCells,zJ],by simpa using zI⟩⟩
  (by simpa using Om (D:=c.D) (l.mergeSort λx y=>decide (x<=y)) []) rfl rfl rfl Z (λb hb ni=>by rw[cG b ni,p2 b hb];rfl)
 exact⟨_,_,c,⟨rfl,rfl⟩,.tuple [] #[] rfl Z,s1,k1⟩
end
end
section
variable {P:Program} {E:Ent}
def Vy{ρ:Ren}(Ly:Lays2.n20 P ρ)(hEn:yZ P (ρ.f 20)){h:mz}{i T:Nat}{l:List Int}(hi:h[i]?=some (.uarr T 1 (l.map iR))) :
  ACalls P (ρ.f 20) [.own i l.length] h λr Y=>r=.ret (.slice ((compact l).map iR))/\Y=h.set i (.arr T 1 ((compact l++List.replicate (l.length - (compact l).length) 0).map iR)):=by
 refine⟨hEn,λc w vs hs ha=>?_⟩;have iP:vs = #[vs[0]!]:=by
  have:=ha.1;apply Array.ext
  .omega
  grind
 obtain⟨v,rfl⟩:∃v,vs = #[v]:=⟨_,iP⟩
 have G:=ha.2 0 _ v rfl rfl;obtain⟨hv,us,tp,u3,iA⟩:=Bb hs hi Z G;have dF:us=l.map (Value.int .i64):=MD (by rw[tp.1]) iA;have qn:(compact l).length<=l.length:=compact_length_le l;obtain⟨ac,hZ⟩:=Qaj (compact l++List.replicate (l.length - (compact l).length) 0)
 have hZl:ac.length=l.length:=W;have fin:∀(w':World) (cap g:Nat) (s1:HSim c (h.set i (.uarr T 1 (ac.map iR))) w') (k1:(⟨0,c,h,w⟩:Ent).ok c (h.set i (.uarr T 1 (ac.map iR))) w'),v=.slice (some ⟨g,0,none⟩) l.length cap->l.length<=cap ->
   ∃r Y c',(r=.ret (.slice ((compact l).map iR))/\Y=h.set i (.arr T 1 (ac.map iR)))/\EndR c' r (.returned (.slice (some ⟨g,0,none⟩) (compact l).length cap))/\HSim c' Y w'/\(⟨0,c,h,w⟩:Ent).ok c' Y w':=by
  intro w' cap g s1 k1 hvg CR;have tq:i<h.length:=(gn.1 hi).1;obtain⟨c',nh,s2,k2⟩:=Hy (E:=⟨0,c,h,w⟩) s1 k1 (i:=i) (ji tq);rw[mq]at s2 k2;obtain⟨v',us',g1,g2,g3,g4,g5,g6,g7,g8⟩:=s2.obj i _ (ji tq);refine⟨_,_,c',⟨rfl,rfl⟩,?_,s2,k2⟩;have hvv:v'=.slice (some ⟨g,0,none⟩) l.length cap:=by have h9:=nh.sl _ _ _ hv;simp only[ka,hZl]at g1;rw[h9,hvg]at g1;exact(qiy g1).symm
  subst hvv;have hD:∀j,j<(compact l).length->c'.D g j=some (.int .i64 ((compact l).getD j 0)):=λj hj=>by obtain⟨u,Q⟩:=g8 g j rfl W;have hZj:ac[j]?=some ((compact l).getD j 0):=W;obtain⟨u',gJ,hd⟩:=g7 j 0 (iR ((compact l).getD j 0)) (.val (.int .i64 ((compact l).getD j 0))) W rfl;cases hd;rw[Nat.mul_one,jt]at gJ;have hc:=g4.cells (g:=g) rfl j _ gJ;rw[cM,im]at hc;have:=s2.data g j u Q;rw[Q];rw[this]at hc;exact hc
  show Rel c' (.slice ((compact l).map iR)) (.slice (some ⟨g,0,none⟩) (compact l).length cap);have hdr:=DRel.slice (D:=c'.D) ((compact l).map iR) g 0 cap 1 (λi' j=>.int .i64 ((compact l).getD i' 0)) Z (by
    obtain⟨_,_,_,_,_,_,h3,_⟩:=hs.obj i _ hi;simp at h3|-;omega) au (λi' j r x o6 hx=>by
    rw[ja]at o6;obtain⟨hI,hz,rfl⟩:=iy.1 o6;cases j with
    |succ j=>simp[iR]at hx
    |zero =>
     rw[im,Nat.mul_one,jt];exact hD i' (gn.1 hz).1) (λi' j r x o6 hx=>by
    rw[ja]at o6;obtain⟨hI,hz,rfl⟩:=iy.1 o6;cases j with
    |succ j=>simp[iR]at hx
    |zero =>
     simp[iR]at hx;subst hx;rw[qj7,hz];exact .val _ rfl rfl)
  simp only[ka]at hdr;exact .data hdr
 rcases tp.2 with⟨rfl,hn⟩|⟨g,cap,nu,rfl,_,hh,uh,r9,zJ,eS⟩
 .have eE:l=[]:=ko hn;subst eE;refine(Any.slices_Compact_int_empty Ly none 0 w).mono ?_;rintro e w' ⟨rfl,rfl⟩;have hZ0:ac=[]:=ko J;have hc0:compact ([]:List Int)=[]:=ko J;obtain⟨c',nh,s2,k2⟩:=Hy (E:=⟨0,c,h,w'⟩) hs (.refl 0 hs) hi;exact⟨_,_,c',⟨rfl,by rw[hZ,hZ0]⟩,by rw[hc0];exact .data .nil,s2,k2⟩
 have hH:=RT hh W zJ uh;have oy:l.length<=68719476736:=qg5;refine(Any.slices_Compact_int Ly g 0 cap l w hH J uh).mono ?_;rintro e w' ⟨rfl,q,rfl⟩;rw[hZ];obtain⟨p1,p2⟩:=NQ (w:=Sort.ahead w q) (d:=ac.toArray) hh;have zI:(putCells (Value.int .i64) 0 ac.toArray nu).toList.take (l.length * 1)=ac.map (Value.int .i64):=by
  apply kp;intro k;rw[jo];by_cases hk:k<l.length * 1
  .rw[gh hk,kq];have iY:k<nu.size:=J;have vk:k<ac.length:=J;simp only[putCells,Array.getElem?_mapIdx,ky iY,kn,qi3,il,im,true_and,Nat.sub_zero,vk,iz,ja,ii vk];simp[vk]
  grind
 obtain⟨s1,k1⟩:=FP (E:=⟨0,c,h,w⟩) hs (.refl 0 hs) (w':=putRow (Value.int .i64) (Sort.ahead w q) g 0 ac.toArray) (qq:=ac.map iR) (us:=ac.map (Value.int .i64)) hi qhn (by simp[hZl]) Z
  ⟨by simp[hZl],.inr ⟨g,cap,_,Z,il _,p1,by simpa using uh,r9,by simp[putCells,zJ],by simpa using zI⟩⟩
  (by simpa using Om (D:=c.D) ac []) rfl rfl rfl Z (λb hb ni=>by rw[p2 b hb];rfl)
 exact fin _ cap g s1 k1 rfl uh
end
end Go.Abs
namespace Go.Abs
section
variable {P:Program} {E:Ent}
def Jo{c:Ctx}{e:Env}{a:Act}{w:World}(s:Sim E.N c e a w)(k:E.ok c e.h w){om:Array Oper}{rest:List Oper}{o1:Oper}{hu:Exit->Act->World->Prop}{py:FuncId}{args:Array Operand}{ts:Array TypeId}{d1:Nat}{x:V}{U:mz}
  (g1:o1.guard=none) (hd1:o1.dst=some d1) (hlt1:d1<E.N) (ho:o1.op=.call { callee:=.value (.func py),args:=args,argTypes:=ts })
  (nz:sn e true args.toList) (hc:ACalls P py (args.toList.map e.getS) e.h λr Y=>r=.ret x/\Y=U)
  (aY:∀c' a' w',Sim E.N c' (({ e with h:=U }:Env).put o1.dst x) a' w'->E.ok c' U w'->wpList P om hu rest a' w') :
  wpList P om hu (o1::rest) a w:=by
 have pq:=yh s nz;have sF:RelL c (args.toList.map e.getS) (args.map a.eval):=RelL.map λx hx=>pq x hx;refine nX (hr:=true) cj (λ_=>?_) (λh=>by cases h);unfold Oper.wp;rw[Bc (us:=#[]) (vs:=#[]) ho rfl hc.1];simp only[qjq,qj4];refine(hc.2 c w _ s.hs sF).mono ?_;rintro en w' ⟨r,Y,c',⟨rfl,rfl⟩,hE,o9,qh⟩;cases en with
 |returned u=>exact aY c' _ w' (s.put qh.ext o9 (λj hj=>by rw[hd1]at hj;cases hj;exact hlt1) hE) (k.trans qh)
 |_=>simp[EndR]at hE
end
end Go.Abs
namespace Go.Abs
open Go.Proofs
section
variable{w:World}{i:Nat}{v:Value}
def UG{c:Ctx}{h:mz}(s:HSim c h w){xs:List V}(hi:h[i]?=some (.cells xs))(hd:∀x,x∈xs->x.isData=true)(G:Rel c (.ptr i 0) v):Rel (oY w) (.eptr xs) v:=by
 obtain⟨b,vs,T,hb,hh,p6,hc⟩:=s.obj i _ hi;cases G with
 |data h=>cases h
 |ptr _ _ b' nl =>
  rw[hb]at nl;cases nl;refine .eptr xs b 0 (λj=>(vs[j]?).getD undef) (λj x hx=>?_) (λj x hx=>?_)
  .have hj:j<vs.size:=by rw[p6];exact(gn.1 hx).1
   show w.cell? ⟨b,0+j,none⟩=_;rw[cell_of_row _ _ _ _ _ _ hh,im,ky hj];rfl
  have hj:j<vs.size:=by rw[p6];exact(gn.1 hx).1
  rw[ky hj];exact(DM (hd x (gw hx)) (hc j x _ hx (ky hj)).1).mono s.data
def TW{c c':Ctx}{f:Fn}{p p':V}(hp:∀u,Rel c p u->Rel c' p' u)(G:Rel c (.fn f [] [p]) v):Rel c' (.fn f [] [p']) v:=by
 cases G with
 |data h=>cases h
 |fn _ _ _ us vs w6 hl Y h =>
  refine .fn f [] [p'] us vs w6 hl (λj x v hx=>by simp at hx) (λj x v hx hv=>?_);cases j with
  |succ j=>simp at hx
  |zero =>
   simp at hx;subst hx;exact hp v (h 0 p v rfl hv)
def YS{c:Ctx}{h:mz}(s:HSim c h w){n el sz:Nat}{S:List (List V)}(hi:h[i]?=some (.uarr el sz S))(hn:S.length=n)(G:Rel c (.own i n) v):Rel (oY w) (.slice S) v:=by have O:=Jq s G;simpa[qL,hi,hn]using O
end
def qov(E:Ent)(e:Env)(i t sz:Nat)(hi:oz e.t i=.nils):Wk E e ⟨(i,.own e.h.length 0)::e.t,e.h++[.uarr t sz []]⟩:=λc a w s k=>by
 obtain⟨nh,s1,k1⟩:=ES s.hs k t sz;refine⟨_,⟨s.defers,s.size,λj=>?_,s1⟩,k1⟩;simp only[oz];by_cases hj:i=j
 .exact Qcw
 exact Qcx
end Go.Abs
namespace Go.Abs
section
variable {P:Program} {E:Ent}
section
variable{T el:TypeId}{sz d1:Nat}{w:World}{e:Env}{om:Array Oper}{rest:List Oper}{o1:Oper}{hu:Exit->Act->World->Prop}
def qn9(hk:nj P T=.slice el sz)(vd:nj P el≠.other)(hsize:oh P el=sz)(hpos:0<sz)(w:World) :
  (Instr.buildSlice T 0 #[]).run P w=.ok (.slice (some ⟨w.heap.size,0,none⟩) 0 0) (w.alloc (.cells #[] el)):=by
 obtain⟨iT,dT,zT,_,wm,_,aV,_⟩:=rk hk Z;obtain⟨rfl,ie,r5,bV⟩:=cH aV;obtain⟨ie',de,ze,wt,_,gH,_,hts,_,zf,zd⟩:=rk (P:=P) (t:=el) rfl vd;rw[r5]at wt;cases wt;simp only[Instr.buildSlice,iu,vo wm,iv,eO r5,bV];have fK:¬(0 * sz > 2 ^ 24):=Z;rw[gg fK,gh Z];simp only[iu,je,iv];have hf:Instr.fill (λi=>some (i * sz,sz)) ((Array.range (0 * sz)).map ((#[]:Array Value)[· % (#[]:Array Value).size]!)) []=some #[]:=by simp[Instr.fill]
 simp only[hf,newRow,iu,Cv,iv,je]
def Uu{c:Ctx}{h:mz}(s:HSim c h w)(k:E.ok c h w)(e:TypeId)(sz:Nat) :
  c.le (c.addSl h.length 0 (.slice (some ⟨w.heap.size,0,none⟩) 0 0))/\HSim (c.addSl h.length 0 (.slice (some ⟨w.heap.size,0,none⟩) 0 0)) (h++[.arr e sz []]) (w.alloc (.cells #[] e)) /\
   E.ok (c.addSl h.length 0 (.slice (some ⟨w.heap.size,0,none⟩) 0 0)) (h++[.arr e sz []]) (w.alloc (.cells #[] e)):=by
 obtain⟨v0,kL⟩:∃v0,v0=Value.slice (some ⟨w.heap.size,0,none⟩) 0 0:=⟨_,rfl⟩
 rw[<-kL];have nh:c.le (c.addSl h.length 0 v0):=Ctx.addSl_le ((s.dom _ (gj _)).2 0);have tj:∀i,i<h.length->∀m,(c.addSl h.length 0 v0).sl i m=c.sl i m:=λi hi m=>by grind[Ctx.addSl]
 have ni:∀{i:Nat} {o:AObj},h[i]?=some o->i<h.length:=λhi=>(gn.1 hi).1;have bF:ou (c.addSl h.length 0 v0) h.length (.arr e sz [])=some w.heap.size:=by simp[ou,Ctx.addSl,kL,Value.ownBlock]
 have cG:∀b,b<w.heap.size->(w.alloc (.cells #[] e)).heap[b]?=w.heap[b]?:=λb hb=>jO w _ b hb;refine⟨nh,⟨λb j v hD=>?_,λi hi=>?_,λi o hi=>?_,λi j o o' b hi hj hb nl=>?_,λi o b j v hi hb hD=>?_⟩,⟨k.edom,k.ext.trans nh,k.blk0,ck,k.os,k.tape,k.output,jh k.size (sV w _),λb hb qz=>?_,λi o b hi hb=>?_,k.dold⟩⟩
 .exact Qdb
 .simp only[it,jp,ju]at hi;have:=s.dom i J;refine⟨this.1,λm=>?_⟩;simp only[Ctx.addSl];rw[gg J];exact this.2 m
 .rcases ve hi with O|⟨rfl,rfl⟩
  .exact Qdc
  refine⟨v0,[],bi,qh8,λm hm=>?_,by rw[kL];exact World.ownsRow_made w #[] 0 (il _) (il _) Z,Z,Z,Z,λb j hb hj=>by simp at hj⟩;exact Qbf
 .rcases ve hi with O|⟨rfl,rfl⟩<;>rcases ve hj with U|⟨rfl,rfl⟩
  .exact Qbg
  .exact Qdd
  .exact Qde
  rfl
 .have v7:c.D b j=some v:=hD;rcases ve hi with O|⟨rfl,rfl⟩
  .exact Qdf
  rw[bF]at hb;cases hb;rw[s.noD (gj _)]at v7;cases v7
 .rw[cG b (qiu hb k.size)];exact k.frame b hb qz
 rcases ve hi with O|⟨rfl,rfl⟩
 .exact Qbi
 rw[bF]at hb;cases hb;exact .inr k.size
def XB{c:Ctx}{a:Act}(s:Sim E.N c e a w)(k:E.ok c e.h w)
  (g1:o1.guard=none) (hd1:o1.dst=some d1) (hlt1:d1<E.N) (hop1:o1.op=.buildSlice T 0 #[])
  (hT:nj P T=.slice el sz) (hel:nj P el≠.other) (p6:oh P el=sz) (hpos:0<sz)
  (aY:∀c' a' w',Sim E.N c' (({ e with h:=e.h++[.arr el sz []] }:Env).put o1.dst (.own e.h.length 0)) a' w'->E.ok c' (e.h++[.arr el sz []]) w'->wpList P om hu rest a' w') :
  wpList P om hu (o1::rest) a w:=by
 have Du:=qn9 (P:=P) hT hel p6 hpos w;obtain⟨nh,s1,k1⟩:=Uu (E:=E) s.hs k el sz;refine nX (hr:=true) cj (λ_=>?_) (λh=>by cases h);refine cL (w':=w.alloc (.cells #[] el)) (v:=.slice (some ⟨w.heap.size,0,none⟩) 0 0) (by simp only[execOp,hop1,qjj,kf,iu,Du,iv,je]) ?_;exact Qdg
def qq3{c:Ctx}{a:Act}(s:Sim E.N c e a w){T':TypeId}{x:Operand}{S:List (List V)}
  (g1:o1.guard=none) (hd1:o1.dst=some d1) (hlt1:d1<E.N) (hop1:o1.op=.binOp .eql T x (.const (.slice none 0 0)) T')
  (hT:nj P T=.slice el sz) (hx:sn e true [x]) (hxv:e.getS x=.slice S)
  (aY:∀(b:Bool) a',(b=true->S=[])->Sim E.N c (e.put o1.dst (.val (.bool b))) a' w->wpList P om hu rest a' w) :
  wpList P om hu (o1::rest) a w:=by
 obtain⟨iT,dT,zT,_,wm,_,aV,_⟩:=rk hT Z;obtain⟨rfl,ie,r5,bV⟩:=cH aV;have ss:=yh s hx x Z;rw[hxv]at ss;have hd:=Rel.slice_inv ss;obtain⟨mw,n,cp,hv,hA⟩:∃(mw:Option Addr) (n cp:Nat),a.eval x=.slice mw n cp/\(mw.isNone=true->S=[]):=by
  generalize a.eval x=v at hd;cases hd with
  |nil=>exact⟨none,0,0,rfl,λ_=>rfl⟩
  |slice S b off cap rr g O U h3 h4 h5=>exact⟨_,_,_,rfl,λh=>by simp at h⟩
  |empty a=>exact⟨_,_,_,rfl,λ_=>rfl⟩
 refine nX (hr:=true) cj (λ_=>?_) (λh=>by cases h);refine cL (w':=w) (v:=.bool mw.isNone) (by have O:=Lib.run_eql_slice_nil (P:=P) w T el mw n cp 0 0 wm;have hc:a.eval (.const (.slice none 0 0))=.slice none 0 0:=rfl;simp only[execOp,hop1,hv,hc,eqGuard,iu,je,iv];simp only[O,iv,Bool.not_true,qjf,jg,je]) ?_
 exact aY mw.isNone _ hA (s.put (.refl c) s.hs (λj hj=>by rw[hd1]at hj;cases hj;exact hlt1) (.val _))
end
end
section
variable {P:Program} {E:Ent}
def zV(P:Program)(E:Ent):Code->(AExit->List Deferred->Env->Prop)->List Deferred->Env->Prop
 | .skip,hu,ds,e=>hu .normal ds e
 | .region _ om false,hu,ds,e=>(om.toList.all λo=>!wM o.op)=true/\xU P E.N (λx e=>hu x ds e) [] om.toList e
 | .seq a b,hu,ds,e=>zV P E a (Ak (zV P E b hu) hu) ds e
 | .cond x a b,hu,ds,e=>match e.get x with
  | .val (.bool c)=>wD c e (zV P E a hu ds) (zV P E b hu ds) ⟨⟩ ⟨⟩
  |_=>False
 | .block id b,hu,ds,e=>zV P E b (EO id hu) ds e
 | .exit id,hu,ds,e=>hu (.exit id) ds e
 | .ret,hu,ds,e=>hu .ret ds e
 |c,hu,ds,e=>SB P E none c hu ds e ⟨⟩
def AH:∀(c:Code) (hu:AExit->List Deferred->Env->Prop) (ds:List Deferred) (e:Env),zV P E c hu ds e->wv P E none c hu ds e
 | .skip,hu,ds,e,h=>N3 h
 | .region id om false,hu,ds,e,h=>by have:=Qz (id:=id) (l:=om.toList) h.1 h.2;simpa using this
 | .region id om true,hu,ds,e,h=>h
 | .seq a b,hu,ds,e,h=>Dr (FR (AH a _ ds e h) λx aU e' hx=>by
   cases x with
   |normal=>exact AH b hu aU e' hx
   |_=>exact hx)
 | .cond x a b,hu,ds,e,h=>by
  simp only[zV]at h;split at h
  .rename_i c hx;exact O2 hx (λhc=>AH a hu ds e (h.1 hc)) (λhc=>AH b hu ds e (h.2 hc))
  grind
 | .block id b,hu,ds,e,h=>Mk (AH b _ ds e h)
 | .loop b,hu,ds,e,h=>h
 | .rangeFunc ..,hu,ds,e,h=>h
 | .exit id,hu,ds,e,h=>MT h
 | .scope b,hu,ds,e,h=>h
 | .label _,hu,ds,e,h=>h
 | .goto _,hu,ds,e,h=>h
 | .ret,hu,ds,e,h=>Iw h
 | .refuse _,hu,ds,e,h=>h
end
attribute [go_sem] zV
section
variable {P:Program} {E:Ent}
end
def SM(E:Ent)(e:Env){p:Nat}{xs:List V}(hp:e.h[p]?=some (.cells xs)):Wk E e ⟨e.t,e.h.set p (.cells (qu e.h xs))⟩:=λc a w s k=>by
 obtain⟨s2,k2⟩:=GD s.hs k (p:=p) (xs:=xs) (nD:=qu e.h xs) hp (by rw[pP,ka]) (λi x x' v hx um G=>by rw[pP,ja,hx]at um;cases um;exact rQ s.hs G)
 exact⟨c,⟨s.defers,s.size,s.tmps,s2⟩,k2⟩
end Go.Abs
namespace Go.Abs
open Go.Proofs
def Yb(E:Ent)(e:Env)(i t sz:Nat)(hi:oz e.t i=.nils):Wk E e ⟨(i,.own e.h.length 0)::e.t,e.h++[.oarr t sz []]⟩:=λc a w s k=>by
 obtain⟨nh,s1,k1⟩:=RX s.hs k t sz;refine⟨_,⟨s.defers,s.size,λj=>?_,s1⟩,k1⟩;simp only[oz];by_cases hj:i=j
 .exact Qcw
 exact Qcx
end Go.Abs
namespace Go.Abs
def Da(E:Ent)(e:Env){p j:Nat}{xs:List V}{x:V}(hp:e.h[p]?=some (.cells xs))(hj:xs[j]?=some x):Wk E e ⟨e.t,e.h.set p (.cells (xs.set j (x.norm e.h)))⟩:=λc a w s k=>by
 obtain⟨s2,k2⟩:=GD s.hs k (p:=p) (xs:=xs) (nD:=xs.set j (x.norm e.h)) hp Z (λi y y' v hy hy' G=>by
  rcases tk hy' with⟨rfl,rfl⟩|⟨nv,O⟩
  .rw[hj]at hy;cases hy;exact rQ s.hs G
  rw[O]at hy;cases hy;exact G)
 exact⟨c,⟨s.defers,s.size,s.tmps,s2⟩,k2⟩
def qkj{P:Program}{f:FuncId}{args:List V}{h:mz}{R R':AEnd->mz->Prop}(k:ACalls P f args h R)(hw:∀r O,R r O->∃U,R' r U/\∀E,Wk E ⟨[],O⟩ ⟨[],U⟩):ACalls P f args h R':=by refine⟨k.1,λc w vs hs ha=>?_⟩;refine(k.2 c w vs hs ha).mono ?_;rintro e w' ⟨r,O,c',hR,hE,o9,ok'⟩;obtain⟨U,dV,uc⟩:=hw r O hR;obtain⟨c1,s1,o1⟩:=uc ⟨0,c',O,w'⟩ c' ⟨#[],[]⟩ w' ⟨rfl,rfl,λ_=>.top _,o9⟩ (.refl 0 o9);exact⟨_,_,c1,dV,hE.mono o1.ext,s1.hs,ok'.trans o1⟩
def VY{P:Program}{o:Oper}{a:Act}{next nx:Act->World->Prop}{hu:Exit->Act->World->Prop}{r:Result Next}(h:o.upon P a next (λex a w=>ex=.normal/\nx a w) r)
  (hn:∀a w,next a w->nx a w):o.upon P a nx hu r:=by
 unfold Oper.upon at h|-;split at h
 .grind
 .grind
 .grind
 .refine Calls.mono h λe w' he=>?_;cases e with
  |returned v=>exact hn _ _ he
  |panicked c=>exact Exit.noConfusion he.1
  |outgrown=>obtain⟨_,_,h,_⟩:=he;exact Exit.noConfusion h
 .exact Rows.mono h λ_ _ he=>hn _ _ he
 .grind
 omega
structure MakeI(P:Program)(N:Nat)(o:Oper)(e:Env)(K:Env->Prop)(d:Tmp)(T el:TypeId)(x:Operand)(n sz:Nat)(zr:List V):Prop where
 g1:o.guard=none
 hd1:o.dst=some d
 hlt1:d<N
 hop1:o.op=.makeSlice T x x
 hT:nj P T=.slice el sz
 hel:nj P el≠.other
 hsize:oh P el=sz
 hpos:0<sz
 hbytes:pn P el<=2048
 hzt:∀x,x∈o8 P el->x≠.top
 hzr:(o8 P el).map nM=zr
 hx:sn e true [x]
 hxv:e.getS x=.val (.int .i64 n)
 hn:n<=68719476736
 k:K (({ e with h:=e.h++[.uarr el sz (List.replicate n zr)] }:Env).put o.dst (.own e.h.length n))
def Vi(P:Program)(N:Nat)(hu:AExit->Env->Prop)(o:Oper)(e:Env)(K:Env->Prop):Prop :=
 zx P N hu [] o e K\/∃d T el x n sz zr,MakeI P N o e K d T el x n sz zr
section
variable {P:Program} {E:Ent}
def Ux{om:Array Oper}{o:Oper}{e:Env}{K:Env->Prop}{d:Tmp}{T el:TypeId}{x:Operand}{n sz:Nat}{zr:List V}(h:MakeI P E.N o e K d T el x n sz zr){c:Ctx}{a:Act}{w:World}
  (s:Sim E.N c e a w) (k:E.ok c e.h w) {nx:Act->World->Prop} {Qc:Exit->Act->World->Prop} (jT:∀e' c' a' w',K e'->Sim E.N c' e' a' w'->E.ok c' e'.h w'->nx a' w') :
  if Region.wanted o (yielded om a.tmps)then o.wp P a w nx Qc\/(o.asks P a w/\LetsOut Qc)else nx (a.put o.dst undef) w:=by
 have O:=YF (P:=P) (E:=E) (om:=om) (rest:=[]) (hu:=λex a w=>ex=.normal/\nx a w) s k h.g1 h.hd1 h.hlt1 h.hop1 h.hT h.hel h.hsize h.hpos h.hbytes h.hzt h.hzr h.hx h.hxv h.hn (λc' a' w' s' k'=>by show Exit.normal=Exit.normal/\_;refine⟨rfl,jT _ c' a' w' h.k s' ?_⟩;rw[h.hd1];exact k')
 have hw:Region.wanted o (yielded om a.tmps)=true:=by simp[Region.wanted,h.g1]
 unfold wpList at O;rw[gh hw]at O|-;rcases O with O|⟨_,_,_,O,_⟩
 .exact .inl (VY O λ_ _ hh=>hh.2)
 grind
def qp8{id:Nat}(m:Nat){l:List Oper}{hu:AExit->Env->Prop}{e:Env}(I:(Nat->Bool)->Env->Prop)(hm:P.follows .mixedOrders=true)(hB:(decide (m<=l.length)&&tH m l&&(l.take m).all (λo=>o.guard.isNone))=true)
  (L:I (λ_=>false) e)
  (nA:∀(X:Nat->Bool) (e':Env) (i:Nat) (o:Oper),I X e'->(l.take m)[i]?=some o->X i=false->(∀d,d∈o.after->Region.binds .any d=true->X d.on=true)->Vi P E.N hu o e' (λe2=>I (λj=>if j=i then true else X j) e2))
  (hend:∀(X:Nat->Bool) (e':Env),(∀j,j<m->X j=true)->I X e'->iB P E.N hu ((l.take m).map (·.dst)) (l.drop m) e'):AWp P E (.region id l.toArray true) hu e:=λc a w s k=>by
 simp only[gy,jm,jk]at hB;obtain⟨⟨zg,hT⟩,hg⟩:=hB;have hgn:∀(i:Nat) (o:Oper),(l.take m)[i]?=some o->o.guard=none:=λi o ho=>by simpa using hg o (gw ho)
 refine wp_region_any hm ?_;have o9:HSim c e.h { w with drawn:=w.drawn+1 }:=s.hs.ext (λ_ _=>rfl) (.refl c) (λ_ _=>rfl) (λ_ _ _ h=>.inl h) s.hs.dom;have qh:E.ok c e.h { w with drawn:=w.drawn+1 }:=k.ext' s.hs (λ_ _=>rfl) (.refl c) (λ_=>rfl) rfl rfl rfl (gj _) (λ_ _ _ h=>.inl h);have cK:(λ_=>false)=λj=>(Array.replicate l.toArray.size false).getD j false:=by exact Qcq
 refine P8 zg (D7 hT) (λi o j zh hi hgd=>by rw[hgn i o hi]at hgd;cases hgd) (λX a' w'=>∃c' e',I X e'/\Sim E.N c' e' a' w'/\E.ok c' e'.h w') (λX a' w' i o qn inv hi xg yx=>?_) (λX a' w' nz inv=>?_) _ _ Z (λj _=>(congrFun cK j).symm) Z ?_ a _ ?_
 .obtain⟨c',e',z,s',k'⟩:=inv;unfold wpOp;have qj:(l.take m).toArray[i]?=some o:=W;rw[qj];rcases nA X e' i o z hi xg yx with h|⟨d,T,el,x,n,sz,zr,h⟩
  .exact D3 h (λhr hG=>by rw[hgn i o hi]at hG;simp only[gB,js]at hG;subst hG;simp[Region.wanted,hgn i o hi]) s' k' λe2 c2 a2 w2 U s2 k2=>⟨c2,e2,U,s2,k2⟩
  exact Ux h s' k' λe2 c2 a2 w2 U s2 k2=>⟨c2,e2,U,s2,k2⟩
 .obtain⟨c',e',z,s',k'⟩:=inv;exact uE (l.drop m) (l.take m) _ Z (hend X e' nz z) c' a' w' s' k'
 .exact Qcr
 rw[<-cK];exact⟨c,e,L,⟨s.defers,s.size,s.tmps,o9⟩,qh⟩
end
end Go.Abs
namespace Go.Abs
open Go.Proofs
section
variable {P:Program} {E:Ent}
def ZP{c:Ctx}{h:mz}{w:World}(s:HSim c h w)(k:E.ok c h w){i e sz m g n cap:Nat}{S:List (List V)}(hi:h[i]?=some (.uarr e sz S))(hn:S.length=n)(hv:c.sl i n=some (.slice (some ⟨g,0,none⟩) n cap))(hm:m<=n) :
  c.le (c.addSl h.length m (.slice (some ⟨g,0,none⟩) m cap))/\HSim (c.addSl h.length m (.slice (some ⟨g,0,none⟩) m cap)) (h.set i .none++[.uarr e sz (S.take m)]) w/\E.ok (c.addSl h.length m (.slice (some ⟨g,0,none⟩) m cap)) (h.set i .none++[.uarr e sz (S.take m)]) w:=by
 subst hn;obtain⟨v0,kL⟩:∃v0,v0=Value.slice (some ⟨g,0,none⟩) m cap:=⟨_,rfl⟩
 rw[<-kL];have nh:c.le (c.addSl h.length m v0):=Ctx.addSl_le ((s.dom _ (gj _)).2 m);have tj:∀j,j<h.length->∀q,(c.addSl h.length m v0).sl j q=c.sl j q:=λj hj q=>by grind[Ctx.addSl]
 have ni:∀{j:Nat} {o:AObj},h[j]?=some o->j<h.length:=λhj=>(gn.1 hj).1;obtain⟨v1,vs,O,si,eW,U,h3,h4,h5⟩:=s.obj i _ hi;rw[hv]at O;cases O;have u3:(S.take m).length=m:=W;have xl:ou c i (.uarr e sz S)=some g:=du;have bF:ou (c.addSl h.length m v0) h.length (.uarr e sz (S.take m))=some g:=by simp[ou,Ctx.addSl,kL,u3,Value.ownBlock]
 have tp:w.ownsRow 0 e sz v0 m (vs.take (m * sz)):=by
  have hmm:m * sz<=S.length * sz:=jl _ hm;refine⟨by rw[kc,U.1];omega,?_⟩;rcases U.2 with⟨hx,_⟩|⟨g',cap',nu,hx,_,hh,uh,r9,su,ht⟩
  .cases hx
  grind
 have Er:∀j o,(h.set i .none++[.uarr e sz (S.take m)])[j]?=some o->(j=h.length/\o=.uarr e sz (S.take m))\/(j=i/\o=.none)\/(j≠i/\h[j]?=some o):=λj o hj=>by grind
 have hbk:∀j o,h[j]?=some o->ou (c.addSl h.length m v0) j o=ou c j o:=λj o hj=>(s.obj j o hj).blk nh;refine⟨nh,⟨s.data,λj hj=>?_,λj o hj=>?_,λj j' o o' b hj uq hb nl=>?_,λj o b q v hj hb hD=>?_⟩,⟨k.edom,k.ext.trans nh,k.blk0,ck,k.os,k.tape,k.output,k.size,k.frame,λj o b hj hb=>?_,k.dold⟩⟩
 .simp only[it,mr,jp,ju]at hj;have:=s.dom j J;grind[Ctx.addSl]
 .rcases Er j o hj with⟨rfl,rfl⟩|⟨rfl,rfl⟩|⟨nv,h6⟩
  .refine⟨v0,vs.take (m * sz),by simp[Ctx.addSl,u3],qh8,λq hq=>?_,by rw[u3];exact tp,by rw[u3];omega,λr G=>h4 r (qi2 G),λi' q r x G hx=>?_⟩
   .rw[u3]at hq;simp only[Ctx.addSl];rw[gg J];exact(s.dom _ (gj _)).2 q
   rw[jo]at G;split at G
   .rename_i tD;obtain⟨u,Q,hd⟩:=h5 i' q r x G hx;refine⟨u,?_,hd⟩;have hrs:=h4 r (gw G);have hq:q<sz:=W;have vT:i' * sz+q<m * sz:=by
     have:(i'+1) * sz<=m * sz:=jl _ tD;grind
    grind
   cases G
  .exact trivial
  exact(s.obj j o h6).keep nh (tj j (ni h6)) λb _=>rfl
 .have key:∀j o,(j≠i/\h[j]?=some o)->ou c j o=some g->False:=λj o hh hg=>hh.1 (s.apart j i o _ g hh.2 hi hg xl);rcases Er j o hj with⟨rfl,rfl⟩|⟨rfl,rfl⟩|h6
  .grind[ou]
  .grind[ou]
  rw[hbk _ _ h6.2]at hb;rcases Er j' o' uq with⟨rfl,rfl⟩|⟨rfl,rfl⟩|h7
  .grind
  .grind[ou]
  rw[hbk _ _ h7.2]at nl;exact s.apart j j' o o' b h6.2 h7.2 hb nl
 .rcases Er j o hj with⟨rfl,rfl⟩|⟨rfl,rfl⟩|h6
  .rw[bF]at hb;cases hb;have h9:(AObj.uarr e sz S).shares q:=s.sep i _ g q v hi xl hD;exact h9
  .grind[ou]
  rw[hbk _ _ h6.2]at hb;exact s.sep j o b q v h6.2 hb hD
 rcases Er j o hj with⟨rfl,rfl⟩|⟨rfl,rfl⟩|h6
 .rw[bF]at hb;cases hb;exact k.newobj i _ g hi xl
 .grind[ou]
 rw[hbk _ _ h6.2]at hb;exact k.newobj j o b h6.2 hb
def qks{f:FuncId}{e sz i j:Nat}{S:List (List V)}{h:mz}(hent:yZ P f)(hi:h[i]?=some (.uarr e sz S))(hj:j<S.length)
  (pj:∀(w:World) (g cap:Nat) (nu:Array Value),w.heap[g]?=some (.cells nu e (0,0))->S.length<=cap->cap<=maxLen->nu.size=cap * sz->(∀v∈nu.toList.take (S.length * sz),v.oneCell'=true) ->
   Calls P f #[.slice (some ⟨g,0,none⟩) S.length cap,.int .i64 j,.int .i64 (j+1:Nat)] w λen w'=>en=.returned (.slice (some ⟨g,0,none⟩) (S.length - 1) cap)/\w'.os=w.os/\w'.tape=w.tape/\w'.output=w.output/\w.heap.size<=w'.heap.size/\(∀b,b≠g->b<w.heap.size->w'.heap[b]?=w.heap[b]?) /\
    ∃rX,w'.heap[g]?=some (.cells rX e (0,0))/\rX.size=cap * sz/\rX.toList.take ((S.length - 1) * sz)=nu.toList.take (j * sz)++(nu.toList.drop ((j+1) * sz)).take ((S.length - 1 - j) * sz)) :
  ACalls P f [.own i S.length,.val (.int .i64 j),.val (.int .i64 (j+1:Nat))] h λr Y=>r=.ret (.own h.length (S.length - 1))/\Y=h.set i .none++[.uarr e sz (S.eraseIdx j)]:=by
 refine⟨hent,λc w vs s ha=>?_⟩;obtain⟨p6,bJ⟩:=ha
 match vs,p6 with
 |⟨[v,a,b]⟩,_ =>
 have hv:=bJ 0 _ v rfl rfl;have O:=(bJ 1 _ a rfl rfl).val_inv;have U:=(bJ 2 _ b rfl rfl).val_inv;subst O;subst U;obtain⟨tj,us,tp,u3,qn⟩:=Bb s hi rfl hv;rcases tp.2 with⟨_,L⟩|⟨g,cap,nu,rfl,hg0,hh,uh,r9,su,eS⟩
 .omega
 have tc:∀v∈nu.toList.take (S.length * sz),v.oneCell'=true:=λv hv=>by
  rw[eS]at hv;obtain⟨q,hq⟩:=iw hv;have hql:q<S.length * sz:=W;have hpos:0<sz:=W;have G:q / sz<S.length:=by simp_all[Nat.div_lt_iff_lt_mul]
  have td:S[q / sz]?=some S[q / sz]:=ii G;have hx:q % sz<(S[q / sz]).length:=by simp_all[qik]
  obtain⟨u,Q,hd⟩:=qn (q / sz) (q % sz) _ _ td (ii hx);rw[qji,Nat.div_add_mod]at Q;rw[hq]at Q;cases Q;exact hd.one
 refine(pj w g cap nu hh uh r9 su tc).mono ?_;rintro en w' ⟨rfl,gX,ht,gO,hsize,vh,rX,iE,hcs',hcut⟩;obtain⟨nh,s1,k1⟩:=ZP (m:=S.length - 1) s (Ent.ok.refl 0 s) hi rfl tj J;obtain⟨c1,tg⟩:=Qaj (c.addSl h.length (S.length - 1) (.slice (some ⟨g,0,none⟩) (S.length - 1) cap))
 have hv1:c1.sl h.length (S.length - 1)=some (.slice (some ⟨g,0,none⟩) (S.length - 1) cap):=by grind[Ctx.addSl]
 rw[tg]at nh s1 k1;have htl:(S.take (S.length - 1)).length=S.length - 1:=Z;have hel:(S.eraseIdx j).length=S.length - 1:=W;have hcl2:nu.toList.length=cap * sz:=J;have e1:(j+1) * sz=j * sz+sz:=W;have e2:(S.length - 1) * sz=j * sz+(S.length - 1 - j) * sz:=qgp;have e3:S.length * sz=(S.length - 1) * sz+sz:=by
  have:S.length=S.length - 1+1:=J
  conv=>lhs;rw[this]
  grind
 have e4:S.length * sz<=cap * sz:=jl _ uh;have eD:(nu.toList.take (j * sz)++(nu.toList.drop ((j+1) * sz)).take ((S.length - 1 - j) * sz)).length=(S.length - 1) * sz:=W;have cG:∀q u,us[q]?=some u->nu.toList[q]?=some u:=λq u hq=>by
  rw[<-eS,jo]at hq;split at hq
  .exact hq
  cases hq
 obtain⟨s2,k2⟩:=FP (w':=w') (i:=h.length) (e:=e) (sz:=sz) (g:=g) (cap:=cap) (S:=S.take (S.length - 1)) (qq:=S.eraseIdx j) (us:=nu.toList.take (j * sz)++(nu.toList.drop ((j+1) * sz)).take ((S.length - 1 - j) * sz)) s1 k1
  Z W J (λr G=>u3 r (List.mem_of_mem_eraseIdx G))
  (by rw[htl];exact⟨eD,.inr ⟨g,cap,rX,rfl,il _,iE,J,r9,hcs',hcut⟩⟩)
  (λi' q r x G hx=>by
   have tq:i'<S.length - 1:=W;rw[List.getElem?_eraseIdx]at G;have hjl:(nu.toList.take (j * sz)).length=j * sz:=W;split at G
   .rename_i hij;obtain⟨u,Q,hd⟩:=qn i' q r x G hx;have hq:q<sz:=W;have vT:i' * sz+q<j * sz:=by
     have:(i'+1) * sz<=j * sz:=jl _ hij;grind
    refine⟨u,?_,hd.mono nh.D⟩;grind
   rename_i hij;obtain⟨u,Q,hd⟩:=qn (i'+1) q r x G hx;have hq:q<sz:=W;have h5:j * sz<=i' * sz:=jl _ J;have h6:(i'+1) * sz<=(S.length - 1) * sz:=jl _ J;rw[kz,qi5]at h6 Q;refine⟨u,?_,hd.mono nh.D⟩;rw[gz J,hjl,jo,gh J,kj];rw[show(j+1) * sz+(i' * sz+q - j * sz)=i' * sz+sz+q by omega];exact cG _ _ Q) gX ht gO hsize vh
 have heq:(h.set i AObj.none++[AObj.uarr e sz (S.take (S.length - 1))]).set h.length (AObj.uarr e sz (S.eraseIdx j))=h.set i AObj.none++[AObj.uarr e sz (S.eraseIdx j)]:=Z;rw[heq]at s2 k2;exact⟨_,_,c1,⟨rfl,rfl⟩,.own _ _ _ hv1 rfl,s2,k2⟩
end
end Go.Abs
namespace Go.Abs
section
variable {P:Program} {E:Ent}
def qkx{c:Ctx}{e:Env}{a:Act}{w:World}(s:Sim E.N c e a w)(k:E.ok c e.h w){om:Array Oper}{rest:List Oper}{o1:Oper}{hu:Exit->Act->World->Prop}{T el:TypeId}{x:Operand}{d1:Nat}
  (g1:o1.guard=none) (hd1:o1.dst=some d1) (hlt1:d1<E.N) (hop1:o1.op=.buildSlice T 1 #[(0,x)])
  (hT:nj P T=.slice el 1) (hel:nj P el≠.other) (p6:oh P el=1) (hx:sn e true [x]) {v:Value} (hxv:e.getS x=.val v) (tc:v.oneCell'=true)
  (aY:∀c' a' w',Sim E.N c' (({ e with h:=e.h++[.arr el 1 [[.val v]]] }:Env).put o1.dst (.own e.h.length 1)) a' w'->E.ok c' (e.h++[.arr el 1 [[.val v]]]) w'->wpList P om hu rest a' w') :
  wpList P om hu (o1::rest) a w:=by
 have ss:=yh s hx x Z;rw[hxv]at ss;have hvx:a.eval x=v:=ss.val_inv;have Du:=R3 (P:=P) hT hel p6 tc w;obtain⟨hle0,s0,k0⟩:=ES s.hs k el 1;have hi0:(e.h++[AObj.uarr el 1 []])[e.h.length]?=some (.uarr el 1 []):=Z;obtain⟨c1,kR,s1,k1,r1⟩:=Kb (E:=E) s0 k0 (w':=w.alloc (.cells #[v] el)) (v':=.slice (some ⟨w.heap.size,0,none⟩) 1 1) (qq:=[[.val v]]) (us:=[v]) hi0 (v:=.slice none 0 0) bi Z Z Z (λi' j r x' G um=>by
   cases i' with
   |zero =>
    simp at G;subst G;cases j with
    |zero=>simp at um;subst um;exact⟨v,rfl,.val v tc (rK ss)⟩
    |succ j=>simp at um
   |succ i'=>simp at G) rfl ⟨rfl,.inr ⟨w.heap.size,1,#[v],rfl,il _,li _ _,gj _,ax,rfl,rfl⟩⟩ rfl rfl rfl Z (.inr ⟨rfl,λk hk=>jO _ _ _ hk⟩)
 have eX:(e.h++[AObj.uarr el 1 []]).set e.h.length (.uarr el 1 [[.val v]])=e.h++[.uarr el 1 [[.val v]]]:=Z;rw[eX]at s1 k1;obtain⟨c2,nH,s2,k2⟩:=Hy (E:=E) s1 k1 (i:=e.h.length) (e:=el) (sz:=1) (S:=[[.val v]]) Z;have hset2:(e.h++[AObj.uarr el 1 [[.val v]]]).set e.h.length (.arr el 1 [[.val v]])=e.h++[.arr el 1 [[.val v]]]:=Z;rw[hset2]at s2 k2;refine nX (hr:=true) cj (λ_=>?_) (λh=>by cases h);refine cL (w':=w.alloc (.cells #[v] el)) (v:=.slice (some ⟨w.heap.size,0,none⟩) 1 1) qfx ?_;refine aY c2 _ _ ?_ k2;exact s.put (hle0.trans (kR.trans nH)) s2 (λj hj=>by rw[hd1]at hj;cases hj;exact hlt1) (r1.mono nH)
end
