/- Part 15 of a proof. -/
import Derived.Shelf.Small.Strs
import Derived.Shelf.Strconv.Itoa4
import Derived.Lib.ItoaLen
import Derived.Test.YtolejdhnnchfpaaGreatDoorR13
set_option linter.all false
set_option maxRecDepth 100000
set_option maxHeartbeats 4000000
namespace Go.Proofs.YtolejdhnnchfpaaGreatDoor
open Go Go.Abs Go.Cw Go.Proofs.Tryz
section
variable{h:mz}{w:World}{i4 i5:Nat}{vs:Array Value}
@[simp] theorem qt6:Ew prog 20=true:=ah
def Uy{c:Ctx}(hs:HSim c h w)(ha:RelL c [.ptr i4 0,.ptr i5 0] vs) :
  CallsD prog 206 vs .returning w λe u' w'=>(∃v,e=.returned v)/\u'=.returning/\∃c',HSim c' h w'/\(⟨12,c,h,w⟩:Ent).ok c' h w':=by
 refine callsD_of_wpS func206 rfl λc₀ cs Q=>?_;have s0:=GM (N:=12) hs ha Z;refine wpS_seq (wpS_region ?_);simp[wpOpsS,go_sem,recoverD,Q,Exit.thenS,ntmps206];obtain⟨q1,q2,q3,q4,q5,q6,q7⟩:=c₀;simp only at Q;subst Q;have s1:=s0.put (.refl c) hs (d:=some 5) Z (Rel.val Value.nilIface);refine P6 (E:=⟨12,c,h,w⟩) (c₀:=⟨q1,q2,q3,q4,.returning,q6,q7⟩) (h2:=.returning) (cs:=cs) (fn:=Tryz.f206) s1 (Ent.ok.refl 12 hs) (H:=h) (n0:=h.length) (gj _) ?_;refine yd _ _ _ ?_;have B:(⟨12,c,h,w⟩:Ent).N=12:=rfl;have gJ:=hs.hUnder;simp-dsimp[go_sem,B,Tryz.f206,gJ];exact⟨.tuple [],.refl _,h,rfl,hwk.refl _,gj _,gJ,rfl,rfl⟩
@[simp] theorem qv3:xO prog 232=some (.agg [I 0,I 0,.nils,my em]):=ah
def Vh{c:Ctx}(hs:HSim c h w)(ha:RelL c [.ptr i4 0,.ptr i5 0] vs){st:List V}(r7:st.length=4)(x4:List V)(h4:h[i4]?=some (.cells x4))(hx4:x4.length=4)(x5:V)(h5:h[i5]?=some (.cells [x5]))(h45:i4≠i5)(hds:st.all V.one=true)
  {v:Value} (hv:Rel c (.iface 232 (.agg st)) v) :
  CallsD prog 206 vs (.panicking [⟨v,false,false⟩]) w λe u' w'=>(∃v,e=.returned v)/\u'=.panicking [⟨v,true,false⟩]/\∃c',HSim c' ((h.set i4 (.cells st)).set i5 (.cells [Bo true])) w'/\(⟨12,c,h,w⟩:Ent).ok c' ((h.set i4 (.cells st)).set i5 (.cells [Bo true])) w':=by
 refine callsD_of_wpS func206 rfl λc₀ cs Q=>?_;have s0:=GM (N:=12) hs ha Z;refine wpS_seq (wpS_region ?_);simp[wpOpsS,go_sem,recoverD,Q,Exit.thenS,ntmps206];have s1:=s0.put (.refl c) hs (d:=some 5) Z hv;refine P6 (E:=⟨12,c,h,w⟩) (c₀:=c₀) (h2:=.panicking [⟨v,true,false⟩]) (cs:=cs) (fn:=Tryz.f206) s1 (Ent.ok.refl 12 hs) (H:=(h.set i4 (.cells st)).set i5 (.cells [Bo true])) (n0:=h.length) (gj _) ?_;refine yd _ _ _ ?_;have B:(⟨12,c,h,w⟩:Ent).N=12:=rfl;have gJ:=hs.hUnder;have l4:i4<h.length:=(gn.1 h4).1;have l5:i5<h.length:=(gn.1 h5).1;obtain⟨a,b,d,e,rfl⟩:∃a b d e,st=[a,b,d,e]:=by
  match st,r7 with
  | [a,b,d,e],_=>exact⟨a,b,d,e,rfl⟩
 have gV:q9 h.length [a,b,d,e]=true:=by have:=hv.under hs.dom;grind[V.under]
 have a4:(h++[AObj.cells [a,b,d,e]])[i4]?=some (.cells x4):=W;have a5:((h++[AObj.cells [a,b,d,e]]).set i4 (AObj.cells [a,b,d,e]))[i5]?=some (.cells [x5]):=W;simp-dsimp[go_sem,B,Tryz.f206,gJ,a4,a5,hx4];rw[show x4.drop 4=[]from gq J,a5];refine⟨Z,.tuple [],.refl _,_,rfl,?_,?_,?_,rfl,rfl⟩
 .simp_all
 .simp
 grind[mr,AObj.under,q9,V.under,wh]
def zs:List V:=[I 0,I 0,.slice [],my em]
def Xk(m:V){g:FuncId}{first pk:List V}{Rg R:AEnd->mz->Prop}(hg:ACalls prog g (qu (h++[.cells [I 0,I 0,.nils,my em],.cells [Bo false]]) (first++pk)) (h++[.cells [I 0,I 0,.nils,my em],.cells [Bo false]]) Rg)
  (hR:∀r Y,Rg r Y->h.length+2<=Y.length->(∃x4,Y[h.length]?=some (.cells x4)/\x4.length=4)/\(∃x5,Y[h.length+1]?=some (.cells [x5]))/\hUnder h.length (Y.take h.length)=true/\match r with
   | .ret _=>R (.ret (.tuple [.agg zs,Bo false])) (Y.take h.length)
   | .panic (.iface 232 (.agg st))=>st.length=4/\st.all V.one=true/\q9 h.length st=true/\R (.ret (.tuple [.agg st,Bo true])) (Y.take h.length)
   |_=>False) (hst':∀Y st,Rg (.panic (.iface 232 (.agg st))) Y->∀H,qu H st=st):ACalls prog 180 [m,.fn (.func g) first pk] h R:=by
 refine⟨⟨_,func180,ah,ah⟩,λc w vs hs ha=>?_⟩;refine calls_of_wp_defers func180 rfl ?_;have s0:=GM (N:=10) hs ha Z;have k0:=Ent.ok.refl 10 hs;rw[ntmps180];refine wp_seq (wp_mono ((Mu (E:=⟨10,c,h,w⟩) (hu:=λx e=>x=.normal/\e=⟨[(5,.ptr (h.length+1) 0),(4,.ptr h.length 0),(0,m),(1,.fn (.func g) first pk)],h++[.cells [I 0,I 0,.nils,my em],.cells [Bo false]]⟩) ?_) c _ w s0 k0) ?_)
 .have B:(⟨10,c,h,w⟩:Ent).N=10:=rfl;exact Qek
 rintro ex a1 w1 ⟨x',e1,c1,⟨rfl,rfl⟩,hx,s1,k1⟩;cases ex<;>simp only[XR]at hx;show Code.wp _ _ _ a1 w1;have t4:=s1.tmps 4;have t5:=s1.tmps 5;have t1:=s1.tmps 1;simp[oz]at t4 t5 t1;refine wp_seq (wp_region_list ?_);have sz:a1.tmps.size=10:=s1.size;have df:a1.defers=[]:=s1.defers;obtain⟨tm,dfs⟩:=a1;simp only at sz df;subst df;simp[wpList,go_sem,Oper.wp,Oper.upon,Instr.makeFunc,sz];refine .inl (.inl ?_);have s3:=s1.put (.refl c1) s1.hs (d:=some 6) Z (Rel.top (Value.func (Fn.func 206) #[] #[tm[4],tm[5]]));have E3:({ tmps:=tm.setIfInBounds 6 (Value.func (Fn.func 206) #[] #[tm[4],tm[5]]),defers:=[{ target:=Target.fn (Fn.func 206) #[tm[4],tm[5]],args:=#[] }] }:Act)=ub [{ target:=Target.fn (Fn.func 206) #[tm[4],tm[5]],args:=#[] }] (({ tmps:=tm,defers:=[] }:Act).put (some 6) (Value.func (Fn.func 206) #[] #[tm[4],tm[5]])):=rfl;rw[E3];have hd4:∀c',c1.le c'->RelL c' [.ptr h.length 0,.ptr (h.length+1) 0] #[tm[4],tm[5]]:=λc' nh=>⟨rfl,λj x v hx hv=>by
  match j with
  | 0=>simp at hx hv;subst hx;subst hv;simpa[sz]using t4.mono nh
  | 1=>simp at hx hv;subst hx;subst hv;simpa[sz]using t5.mono nh
  |j+2=>simp at hx⟩
 have fin:∀(c5:Ctx) (e5:Env) (a5:Act) (w5:World) (hf:mz) (st:List V) (b:Bool),Sim 10 c5 e5 a5 w5->(⟨10,c,h,w⟩:Ent).ok c5 e5.h w5->oz e5.t 4=.ptr h.length 0->oz e5.t 5=.ptr (h.length+1) 0 ->
   e5.h[h.length]?=some (.cells st)->st.length=4->q9 h.length (qu e5.h st)=true->e5.h[h.length+1]?=some (.cells [Bo b])->hwk e5.h hf->hf.length=h.length->hUnder h.length hf=true->R (.ret (.tuple [.agg (qu e5.h st),Bo b])) hf ->
   ∃v,(results Tryz.f180 a5.tmps).run prog w5=.ok v w5/\∃r Y,R r Y/\∃x,EndR x r (.returned v)/\HSim x Y w5/\(⟨0,c,h,w⟩:Ent).ok x Y w5:=by
  intro c5 e5 a5 w5 hf st b s5 k5 l4 l5 g4 r7 gV g5 hw hl Q hRR;obtain⟨v,hv,G⟩:=Gd (E:=⟨10,c,h,w⟩) (P:=prog) s5 Tryz.f180 (by simp[Tryz.f180,go_sem,l4,l5,g4,g5,r7])
  have ug:(AQ ((Tryz.f180).results.toList.map λr=>(vF prog e5 r).val))=.tuple [.agg st,Bo b]:=by have ht:st.take 4=st:=ll J;simp[Tryz.f180,go_sem,l4,l5,g4,g5,ht]
  rw[ug]at G;obtain⟨c6,q1,q2,q3⟩:=Cf (E:=⟨10,c,h,w⟩) s5 k5 G (r':=.tuple [.agg (qu e5.h st),Bo b]) (Y:=hf) (by simp[V.norm,qu]) (by grind[V.under,q9]) hw fl W;exact⟨v,hv,_,hf,hRR,c6,q3,q1,q2.withN 0⟩
 have k3:(⟨10,c1,h++[.cells [I 0,I 0,.nils,my em],.cells [Bo false]],w1⟩:Ent).ok c1 (h++[.cells [I 0,I 0,.nils,my em],.cells [Bo false]]) w1:=Ent.ok.refl 10 s1.hs;refine wp_seq (wp_region_list (DQ (hu:=kI ⟨10,c1,h++[.cells [I 0,I 0,.nils,my em],.cells [Bo false]],w1⟩ λx e=>match x with
  | .normal=>(∃v,Rg (.ret v) e.h)/\oz e.t 4=.ptr h.length 0/\oz e.t 5=.ptr (h.length+1) 0
  | .panic v=>Rg (.panic v) e.h/\oz e.t 4=.ptr h.length 0/\oz e.t 5=.ptr (h.length+1) 0
  |_=>False) ?_ ((uE (E:=⟨10,c1,h++[.cells [I 0,I 0,.nils,my em],.cells [Bo false]],w1⟩) _ [] _ rfl ?_) c1 _ w1 s3 k3)))
 .rintro x a w2 ⟨x',e2,c2,hq,hx,s2,k2⟩;have nh:c1.le c2:=k2.ext;have oy:h.length+2<=e2.h.length:=by simpa using k2.len
  cases x' with
  |normal =>
   cases x<;>simp only[XR]at hx;obtain⟨⟨v,hv⟩,l4,l5⟩:=hq;obtain⟨⟨x4,g4,lx4⟩,⟨x5,g5⟩,hu2,hRR⟩:=hR _ _ hv oy;show Code.wp _ _ _ _ _;have n4:h.length<e2.h.length:=J;have n5:h.length+1<e2.h.length:=J;refine wp_seq (wp_region_list (DQ (hu:=kI ⟨10,c2,e2.h,w2⟩ λx e=>x=.normal/\e.h=(e2.h.set h.length (.cells [I 0,I 0,.nils,my em])).set (h.length+1) (.cells [Bo false])/\oz e.t 4=.ptr h.length 0/\oz e.t 5=.ptr (h.length+1) 0) ?_ ((uE (E:=⟨10,c2,e2.h,w2⟩) _ [] _ rfl ?_) c2 _ w2 s2 (Ent.ok.refl 10 s2.hs))))
   .rintro x a w3 ⟨x',e3,c3,⟨rfl,h3,l4',l5'⟩,hx,s3',k3'⟩;cases x<;>simp only[XR]at hx;show Code.wp _ _ _ _ _;refine wp_ret ?_;have Ai:c1.le c3:=nh.trans k3'.ext;show Leaves _ _ _ _ (a.defers++_) _ _;rw[s3'.defers,ke];refine leaves_cons (f:=206) (args:=#[tm[4],tm[5]]) Z (by simp[invoke]) ((Uy s3'.hs (hd4 c3 Ai)).mono ?_);rintro en u' w4 ⟨⟨v4,rfl⟩,rfl,c4,s4,k4⟩;have sim4:Sim 10 c4 e3 a w4:=⟨s3'.defers,s3'.size,λi=>(s3'.tmps i).mono k4.ext,s4⟩
    have e3a:e3.h[h.length]?=some (.cells [I 0,I 0,.nils,my em]):=W;have e3b:e3.h[h.length+1]?=some (.cells [Bo false]):=W;have kk:(⟨10,c,h,w⟩:Ent).ok c4 e3.h w4:=((k1.trans k2).trans k3').trans k4;obtain⟨v5,h5,h6⟩:=fin c4 e3 a w4 (e2.h.take h.length) [I 0,I 0,.nils,my em] false sim4 kk l4' l5' e3a rfl (by simp[qu,V.norm,q9,V.under]) e3b (by rw[h3];exact Ov J) au hu2 (by grind[qu,V.norm,zs])
    exact⟨v5,h5,h6⟩
   have B:(⟨10,c2,e2.h,w2⟩:Ent).N=10:=rfl;have g5':(e2.h.set h.length (AObj.cells [I 0,I 0,.nils,my em]))[h.length+1]?=some (.cells [x5]):=W;simp-dsimp[go_sem,B,l4,l5,g4,g5,lx4]
   try rw[show x4.drop 4=[]from gq J]
   try simp-dsimp[go_sem,g5',l4,l5]
  |panic v =>
   obtain⟨hv,l4,l5⟩:=hq;obtain⟨⟨x4,g4,lx4⟩,⟨x5,g5⟩,hu2,hRR⟩:=hR _ _ hv oy;split at hRR
   .grind
   .rename_i st he;cases he;obtain⟨r7,tc,gV,hRR⟩:=hRR;cases x with
    |panic ch =>
     cases ch with
     |nil=>simp[XR]at hx
     |cons p l =>
      cases l with
      |cons=>simp[XR]at hx
      |nil =>
       obtain⟨u,rc,gx⟩:=p;cases rc<;>cases gx<;>simp only[XR]at hx;show Leaves _ _ _ _ (a.defers++_) _ _;rw[s2.defers,ke];refine leaves_cons (f:=206) (args:=#[tm[4],tm[5]]) Z (by simp[invoke]) ((Vh s2.hs (hd4 c2 nh) r7 x4 g4 lx4 x5 g5 J tc hx).mono ?_);rintro en u' w4 ⟨⟨v4,rfl⟩,rfl,c4,s4,k4⟩;have n4:h.length<e2.h.length:=J;have n5:h.length+1<e2.h.length:=J;have sim4:Sim 10 c4 ⟨e2.t,(e2.h.set h.length (.cells st)).set (h.length+1) (.cells [Bo true])⟩ a w4:=⟨s2.defers,s2.size,λi=>(s2.tmps i).mono k4.ext,s4⟩
       have kk:(⟨10,c,h,w⟩:Ent).ok c4 ((e2.h.set h.length (.cells st)).set (h.length+1) (.cells [Bo true])) w4:=(k1.trans k2).trans k4;have hnorm:qu ((e2.h.set h.length (.cells st)).set (h.length+1) (.cells [Bo true])) st=st:=hst' _ _ hv _;obtain⟨v5,h5,h6⟩:=fin c4 ⟨e2.t,(e2.h.set h.length (.cells st)).set (h.length+1) (.cells [Bo true])⟩ a w4 (e2.h.take h.length) st true sim4 kk l4 l5 (by simp[n4]) r7 W (by simp[n5]) (Ov J) au hu2 W;exact⟨v5,h5,h6⟩
    |_=>simp[XR]at hx
   grind
  |_=>exact hq.elim
 have B:(⟨10,c1,h++[.cells [I 0,I 0,.nils,my em],.cells [Bo false]],w1⟩:Ent).N=10:=rfl;refine M ?_;refine se hg λr Y G=>?_;cases r<;>simp[go_sem,G];grind
end
end Go.Proofs.YtolejdhnnchfpaaGreatDoor
namespace Go.Proofs.YtolejdhnnchfpaaGreatDoor
open Go Go.Abs Go.Cw Go.Shelf Go.Proofs.Tryz
def QM:Ren:=⟨fun
 | 129=>121| 173=>329| 246=>351| 283=>361| 284=>362| 285=>363| 286=>364
 | 317=>369| 318=>370| 319=>371| 320=>372| 337=>374| 338=>375|x=>x,
 λ| 0=>0| 2=>2| 3=>3| 4=>4| 5=>5| 9=>9| 20=>20| 37=>365| 46=>138| 51=>183| 53=>185| 171=>373| 173=>375| 212=>380| 213=>381| 232=>383| 233=>384|x=>x,
 λ| 17=>1| 18=>2| 19=>3|x=>x⟩
def WR:Lays.n173 prog QM:=by constructor<;>first|exact λ_=>by kernel_rfl|kernel_rfl
theorem J7:LaysM.n173 prog QM:={ WR with i0:=by kernel_rfl,i2:=by kernel_rfl,i3:=by kernel_rfl,i4:=by kernel_rfl,i5:=by kernel_rfl,i9:=by kernel_rfl,i20:=by kernel_rfl,i37:=by kernel_rfl,i46:=by kernel_rfl,i51:=by kernel_rfl,i53:=by kernel_rfl,i171:=by kernel_rfl,i173:=by kernel_rfl,i212:=by kernel_rfl,i232:=by kernel_rfl,i233:=by kernel_rfl,m17:=by kernel_rfl,m18:=by kernel_rfl,m19:=by kernel_rfl }
def E8:Array Value:=(Lib.pow10Tab.map λhI=>Value.int .u64 hI).toArray
def fZ(T:TypeId)(x:Nat×Nat):AObj:=.raw 1 (λ_=>.cells E8 T x) []
def pw(n:Int):na:=⟨(Lib.itoa n).toArray⟩
def qqc{c:Ctx}{h:mz}{w:World}(hs:HSim c h w)(k:Nat)(os:Array Obj):HSim c h (Sort.grow (w.drewN k) os)/\(⟨0,c,h,w⟩:Ent).ok c h (Sort.grow (w.drewN k) os):=by
 have hw:∀b,b<w.heap.size->(Sort.grow (w.drewN k) os).heap[b]?=w.heap[b]?:=λb hb=>by show(w.heap++os)[b]?=_;rw[qjr hb]
 refine⟨hs.ext hw (.refl c) (λ_ _=>rfl) (λ_ _ _ h=>.inl h) hs.dom,?_⟩;exact(Ent.ok.refl 0 hs).ext' hs hw (.refl c) (λ_=>rfl) rfl rfl rfl Z (λ_ _ _ h=>.inl h)
def qk0(n:Int)(hn:i64 n)(h:mz)(g:Nat){T:TypeId}{x:Nat×Nat}(hg:h[g]?=some (fZ T x))(p6:(pw n).size<=68719476736) :
  ACalls prog 329 [I n,I 10] h λr Y=>r=.ret (my (pw n))/\Y=h:=by
 refine⟨⟨_,J7.f173,rfl,rfl⟩,λc w vs hs ha=>?_⟩;obtain⟨hb,us,hv,_⟩:=hs.obj _ _ hg
 have htab:Lib.TabIs prog w "internal/strconv.uint64pow10" .u64 Lib.pow10Tab:=by unfold Lib.TabIs World.var?;rw[J7.m17];simp only[lw];show(match w.heap[1]? with|some (.cells cs _ _)=>some cs|_=>none)=_;rw[hv];rfl
 have he:vs = #[.int .i64 n,.int .i64 10]:=Pp (l:=[.int .i64 n,.int .i64 10]) ha;rw[he];refine(Any.strconv_FormatInt_10 J7 n hn.1 hn.2 w htab).mono ?_;rintro e w' ⟨rfl,k,os,rfl⟩;obtain⟨g1,g2⟩:=qqc hs k os;exact⟨_,h,c,⟨rfl,rfl⟩,.val _ (by grind[iU]),g1,g2⟩
def qk1(n:Int)(hn:i64 n)(h:mz)(g:Nat){T:TypeId}{x:Nat×Nat}(hg:h[g]?=some (fZ T x)) :
  ACalls prog 300 [I n] h λr Y=>r=.ret (my (pw n))/\Y=h:=by
 have p6:(pw n).size<=68719476736:=by have:=Lib.itoa_length_le n hn.1 hn.2;show(Lib.itoa n).length<=_;omega
 refine s8 func300 ntmps300 λE B hh Q hb nl qb=>?_;refine M ?_;refine o7 (qk0 n hn h g hg p6) (M ?_);exact⟨_,.refl _,_,rfl,hwk.refl _,gj _,Q,rfl,rfl⟩
end Go.Proofs.YtolejdhnnchfpaaGreatDoor
namespace Go.Proofs.YtolejdhnnchfpaaGreatDoor
open Go Go.Abs Go.Cw Go.Proofs.Tryz
section
attribute [local go_sem] mC
variable {C:Cfg} {tT:TypeId} {tx:Nat×Nat} {g m v o io ir ip:Nat} {K:MQ->mz} {n0:Nat}
abbrev tJ(C:Cfg)(tT:TypeId)(tx:Nat×Nat)(g m v o io ir ip:Nat)(K:MQ->mz)(n0:Nat):Prop:=MH C (fZ tT tx) 57 9 g m v o io ir ip K n0
def QI(h':tJ C tT tx g m v o io ir ip K n0)(s:MS)(r7:s.steps<=100000) :
  ACalls prog 207 [.ptr m 0] (K s.q) λr Y=>r=uy (xx s).1/\Y=K (xx s).2.q:=by
 refine s8 func207 ntmps207 λE B hh Q hb nl qb=>?_;have hw:IntKind.i64.wrap ((s.steps:Int)+1)=(s.steps:Int)+1:=eU J J;simp-dsimp[go_sem,B,h'.lm,hw,h'.smx];refine ox (λL=>?_) (λL=>?_)
 .refine M ?_;refine o7 (pX 1008 _) (M ?_);rw[xx,gh J];exact⟨_,.refl _,K (xx s).2.q,af,ag,aq,h'.und' _,am,ai⟩
 refine M ?_;rw[xx,gg J];exact⟨_,.refl _,K (xx s).2.q,af,ag,aq,h'.und' _,am,ai⟩
def Tg(h':tJ C tT tx g m v o io ir ip K n0)(s:MS)(x:AV)(hl:s.out.length<=100) :
  ACalls prog 233 [.ptr m 0,.agg x.c] (K s.q) λr Y=>r=uy (bO x s).1/\Y=K (bO x s).2.q:=by
 refine s8 func233 ntmps233 λE B hh Q hb nl qb=>?_;simp-dsimp[go_sem,B,h'.lm',h'.lio'];refine ox (λL=>?_) (λL=>?_)
 .refine M ?_;refine o7 (pX 1007 _) (M ?_);rw[bO,gh J];exact Qgg
 refine M ?_;refine xQ 10 9 [0] mixed ah ?_;simp-dsimp[go_sem,B,h'.lm',h'.lio',h'.len,h'.loc,h'.sioA,h'.smx'];refine⟨J,?_⟩;rw[bO,gg J];exact⟨_,.refl _,K ⟨s.vars,s.own,s.out++[x],s.reads,s.puts,s.out.length+1,s.reads.length,s.puts.length,s.steps⟩,af,ag,aq,h'.und' _,am,ai⟩
def V6(h':tJ C tT tx g m v o io ir ip K n0)(s:MS)(key:na)(ha:qg s.reads)(hl:s.reads.length+1<=68719476736) :
  ACalls prog 301 [.ptr m 0,my key] (K s.q) λr Y=>r=u5 (y4 C key s).1/\Y=K (y4 C key s).2.q:=by
 refine s8 func301 ntmps301 λE B hh Q hb nl qb=>?_;refine M ?_;refine nc (CM key) ?_;refine nf (λL=>?_) (λL=>?_)
 .refine M ?_;refine o7 (pX 1004 _) (M ?_);rw[y4,gh L];exact Qgg
 rw[y4,gg bz];rcases hk:pb s.own key with _|w
 rotate_left
 .simp-dsimp[go_sem,B,h'.lm',h'.lo',hk];exact Qgg
 simp-dsimp[go_sem,B,h'.lm',h'.lo',hk];refine pz (GK C.rd key) Z (M ?_)
 repeat refine⟨W,?_⟩
 refine ox (λO=>?_) (λO=>?_)
 .exact Qgh
 have s7:¬(C.all=false/\qa C.rd key=false):=W;simp only[s7,jg];simp-dsimp[go_sem,B,h'.lm',h'.lir'];refine o7 (Oz _ _ s.reads (h'.lir' s.q _) J key ha) ?_;simp-dsimp[go_sem,B,h'.sir',h'.lm',h'.smx',h'.len,h'.loc,h'.sloc,h'.loc1,h'.sloc1];refine nc (Ya C.state key) ?_;simp-dsimp[go_sem,B,h'.sir',h'.lm',h'.smx',h'.len,h'.loc,h'.sloc,h'.loc1,h'.sloc1];exact⟨_,.refl _,K (MS.q { s with reads:=zj s.reads key }),af,ag,aq,h'.und' _,am,ai⟩
def LC(h':tJ C tT tx g m v o io ir ip K n0)(s:MS)(key:na)(x:AV)(ha:qg s.puts)(hl:s.puts.length+1<=68719476736) :
  ACalls prog 231 [.ptr m 0,my key,.agg x.c] (K s.q) λr Y=>r=uy (yl C key x s).1/\Y=K (yl C key x s).2.q:=by
 refine s8 func231 ntmps231 λE B hh Q hb nl qb=>?_;refine M ?_;refine nc (CM key) ?_;refine nf (λL=>?_) (λL=>?_)
 .refine M ?_;refine o7 (pX 1004 _) (M ?_);rw[yl,gh L];exact Qgg
 rw[yl,gg bz];simp-dsimp[go_sem,B,h'.lm'];refine pz (GK C.wr key) Z (M ?_)
 repeat refine⟨W,?_⟩
 refine ox (λO=>?_) (λO=>?_)
 .exact Qgh
 have s7:¬(C.all=false/\qa C.wr key=false):=W;simp only[s7,jg];simp-dsimp[go_sem,B,h'.lm',h'.lip'];refine o7 (Oz _ _ s.puts (h'.lip' s.q _) J key ha) ?_;simp-dsimp[go_sem,B,h'.sip',h'.lm',h'.smx'];refine pf 6 ?_;simp-dsimp[go_sem,B,h'.lm',h'.lo',h'.len,h'.loc,h'.so'];exact⟨_,.refl _,K (MS.q { s with puts:=zj s.puts key,own:=qc s.own key x }),af,ag,aq,h'.und' _,am,ai⟩
end
section
attribute [local go_sem] mC
variable {C:Cfg} {tT:TypeId} {tx:Nat×Nat} {g m v o io ir ip:Nat} {K:MQ->mz} {n0:Nat}
def Tq(h':tJ C tT tx g m v o io ir ip K n0)(hF:C.fmt=pw)(s:MS)(op:Int)(a:AV)(ha:qg s.reads)(hl:s.reads.length+1<=68719476736)(G:r6 a) :
  ACalls prog 269 [.ptr m 0,I op,.agg a.c] (K s.q) λr Y=>r=u5 (zt C op a s).1/\Y=K (zt C op a s).2.q:=by
 refine s8 func269 ntmps269 λE B hh Q hb nl qb=>?_;simp-dsimp[go_sem,B,h'.len];refine ox (λL=>?_) (λL=>?_)
 .rw[zt,gh L];simp-dsimp[go_sem,B,h'.loc,h'.len];refine se (eP (decide (a.k=1)) _) ?_;rintro r Y ⟨⟨hm,rfl⟩|⟨hm,rfl⟩,rfl⟩<;>simp at hm
  .simp-dsimp[go_sem,B,h'.loc,h'.len];refine nc (Gq a.n) ?_;simp-dsimp[go_sem,B,h'.loc,h'.len];refine o7 (Cg (eF a.n) _) ?_;rw[gh hm];cases yz (eF a.n)<;>simp-dsimp[go_sem,B,u5,h'.loc1,h'.sloc1,h'.len]<;>exact⟨_,.refl _,K s.q,af,ag,aq,h'.und' _,am,ai⟩
  exact Qgi
 simp-dsimp[go_sem,B,h'.len];rw[zt,gg L];refine ox (λO=>?_) (λO=>?_)
 .rw[gh O];simp-dsimp[go_sem,B,h'.loc,h'.len];refine se (eP (decide (a.k=3)) _) ?_;rintro r Y ⟨⟨hm,rfl⟩|⟨hm,rfl⟩,rfl⟩<;>simp at hm
  .simp-dsimp[go_sem,B,h'.loc,h'.len];refine nc (wA (decide (a.n=0))) ?_;exact Qgj
  exact Qgi
 simp-dsimp[go_sem,B,h'.len];rw[gg O];refine ox (λU=>?_) (λU=>?_)
 .rw[gh U];simp-dsimp[go_sem,B,h'.loc,h'.len];refine se (eP (decide (a.k=1)) _) ?_;rintro r Y ⟨⟨hm,rfl⟩|⟨hm,rfl⟩,rfl⟩<;>simp at hm
  .simp-dsimp[go_sem,B,h'.loc,h'.len];refine o7 (qk1 a.n G.1 _ g (h'.lg' _ _)) (M ?_);refine o7 (It _ _) ?_;rw[gh hm,hF];cases dR (pw a.n)<;>simp-dsimp[go_sem,B,u5,h'.loc1,h'.sloc1,h'.len]<;>exact⟨_,.refl _,K s.q,af,ag,aq,h'.und' _,am,ai⟩
  exact Qgi
 simp-dsimp[go_sem,B,h'.len];rw[gg U];refine ox (λh3=>?_) (λh3=>?_)
 .rw[gh h3];simp-dsimp[go_sem,B,h'.loc,h'.len];refine se (eP (decide (a.k=2)) _) ?_;rintro r Y ⟨⟨hm,rfl⟩|⟨hm,rfl⟩,rfl⟩<;>simp at hm
  .simp-dsimp[go_sem,B,h'.loc,h'.len];refine nc (Fx (a.s.size:Int)) ?_;exact Qgj
  exact Qgi
 simp-dsimp[go_sem,B,h'.loc,h'.len];rw[gg h3];refine se (eP (decide (a.k=2)) _) ?_;rintro r Y ⟨⟨hm,rfl⟩|⟨hm,rfl⟩,rfl⟩<;>simp at hm
 rotate_left
 .exact Qgi
 rw[gg J];simp-dsimp[go_sem,B,h'.loc,h'.len];refine o7 (V6 (h'.ext [_,_] av) s a.s ha hl) ?_;rcases y4 C a.s s with⟨hI|w,s'⟩
 .refine Qag ?_;exact Qgk
 simp-dsimp[go_sem,B,u5,h'.loc,h'.loc1,h'.len];simp only[dO];refine ox (λh4=>?_) (λh4=>?_)
 .simp-dsimp[go_sem,B,h'.loc2,h'.len];refine nc (wA (!decide (w.k=0))) ?_;simp-dsimp[go_sem,B,h'.loc1,h'.sloc1,h'.len];rw[gh h4];exact Qgk
 rw[gg h4];simp-dsimp[go_sem,B,h'.loc2,h'.len];refine ox (λh5=>?_) (λh5=>?_)
 .refine M ?_;refine nc (Fx 0) ?_;simp-dsimp[go_sem,B,h'.loc1,h'.sloc1,h'.len];rw[gh h5];exact Qgk
 rw[gg J];simp-dsimp[go_sem,B,h'.loc2,h'.len];refine ox (λh6=>?_) (λh6=>?_)
 .refine M ?_;refine o7 (It em _) ?_;rw[gh h6];cases dR em<;>simp-dsimp[go_sem,B,u5,h'.loc1,h'.sloc1,h'.len]<;>exact⟨_,.refl _,K s'.q,af,ag,aq,h'.und' _,am,ai⟩
 rw[gg J];simp-dsimp[go_sem,B,h'.loc2,h'.len];refine ox (λh7=>?_) (λh7=>?_)
 .refine M ?_;refine og (λ_=>?_) (λhx=>by simp[h7]at hx);refine M ?_;refine o7 (pX 1003 _) (M ?_);rw[gh (.inl h7)];exact Qgk
 simp-dsimp[go_sem,B,h'.loc2,h'.len];refine ox (λh8=>?_) (λh8=>?_)
 .refine M ?_;refine o7 (pX 1003 _) (M ?_);rw[gh (.inr h8)];exact Qgk
 simp-dsimp[go_sem,B,h'.loc2,h'.loc1,h'.sloc1,h'.len];rw[gg (λk=>k.elim (λk=>k.2 (h7 k.1)) (λk=>k.2 (h8 k.1)))];exact Qgk
end
section
attribute [local go_sem] mC
variable {C:Cfg} {tT:TypeId} {tx:Nat×Nat} {g m v o io ir ip:Nat}
def yN(hF:C.fmt=pw)(hC:bU C){K:MQ->mz}{n0:Nat}(h':tJ C tT tx g m v o io ir ip K n0)(s:MS)(e:Ex)(hX:zb e)(hM:nF s)(ha:qg s.reads)(hl:s.reads.length+nodes e<=1000000000) :
  ACalls prog 229 [.ptr m 0,.agg e.x] (K s.q) λr Y=>r=u5 (rp C e s).1/\Y=K (rp C e s).2.q:=by
 refine s8 func229 ntmps229 λE B hh Q hb nl qb=>?_;have iC:=(xM _).1 hX;simp[go_sem]at hb;rw[Ry];simp-dsimp[go_sem,B,h'.len,h'.loc];refine ox (λO=>?_) (λO=>?_)
 .simp-dsimp[go_sem,B,h'.len,h'.loc];refine nc (Fx e.n) ?_;simp-dsimp[go_sem,B,h'.len,h'.loc1,h'.sloc1];rw[gh O];exact Qgg
 rw[gg O];simp-dsimp[go_sem,B,h'.len,h'.loc];refine ox (λU=>?_) (λU=>?_)
 .simp-dsimp[go_sem,B,h'.len,h'.loc,h'.loc1,h'.sloc1];rw[gh U];exact Qgg
 rw[gg U];simp-dsimp[go_sem,B,h'.len,h'.loc];refine ox (λh3=>?_) (λh3=>?_)
 .rw[gh h3];refine M ?_;refine aW 12 mixed ah ?_;rcases hk:pb s.vars e.s with _|w
  .simp-dsimp[go_sem,B,h'.len,h'.loc,h'.loc1,h'.loc2,h'.sloc1,h'.sloc2,h'.lm',h'.lv',hk];refine⟨qhb,?_⟩;refine se (eP false _) ?_;rintro r Y ⟨⟨hm,rfl⟩|⟨hm,rfl⟩,rfl⟩<;>simp at hm;refine M ?_;exact Qgg
  simp-dsimp[go_sem,B,h'.len,h'.loc,h'.loc1,h'.loc2,h'.sloc1,h'.sloc2,h'.lm',h'.lv',hk];refine⟨qhb,?_⟩;refine se (eP true _) ?_;rintro r Y ⟨⟨hm,rfl⟩|⟨hm,rfl⟩,rfl⟩<;>simp at hm;simp-dsimp[go_sem,B,h'.len,h'.loc,h'.loc1,h'.loc2,h'.sloc1,h'.sloc2];exact Qgg
 rw[gg h3];simp-dsimp[go_sem,B,h'.len,h'.loc];have hn:=Cm e;refine u4 (α:=List AV×MS) e.args.length (λn a=>a.1.length=n/\(∀v∈a.1,r6 v)/\nF a.2/\qg a.2.reads/\a.2.reads.length+lM (e.args.drop n)+1<=1000000000 /\
   uf C e.args s=match uf C (e.args.drop n) a.2 with
    |(.error hI,m')=>(.error hI,m')
    |(.ok r,m')=>(.ok (a.1++r),m'))
  (λn a=>⟨[(0,.ptr m 0),(3,.ptr n0 0),(4,.ptr (n0+1) 0),(7,.own (n0+2) a.1.length),(38,.slice (e.args.map Ex.c)),(39,I e.args.length),(40,I n)],K a.2.q++[.cells e.x,.cells [I 0,I 0,my em],.arr 57 3 (a.1.map AV.c)]⟩)
  ([],s) ⟨rfl,Z,hM,ha,au,?_⟩ ((mF E _ 7 57 3 af).trans ?_) ?_
 .grind
 .simp[h'.len];have:=h'.hm;exact(Wk.mk W Z dk db)
 rintro n ⟨nw,s'⟩ lC ⟨kM,lE,hM',ha',w6,z⟩;dsimp only at kM lE hM' ha' w6 z;have hmn:=h'.hm;have hw:=oi lC hb.2.1;refine nf (λhc=>?_) (λhc=>?_)
 .rw[ov hc]at z w6;rw[CP]at w6;rw[uf]at z;have ni:SizeOf.sizeOf e.args[n]<SizeOf.sizeOf e:=Ex.arg_lt (ij hc);refine Qab ?_;refine o7 (yN hF hC (h'.ext [_,_,_,_] av) s' e.args[n] (iC.2 _ (ij hc)) hM' ha' J) ?_;have pg:=nI hC e.args[n] s' (iC.2 _ (ij hc)) hM' ha';rcases hE:rp C e.args[n] s' with⟨hI|w,s2⟩
  .rw[hE]at z;simp only at z;refine Qag ?_;rw[z];exact Qgl
  rw[hE]at z pg;simp only at z pg;simp-dsimp[go_sem,B,u5,h'.len,h'.loc,h'.loc1,h'.loc2,h'.loc3,h'.sloc2,hw];refine⟨J,hc,nw++[w],s2,⟨by simp[kM],?_,pg.1.rng hM',pg.1.asc,by have:=pg.1.len;omega,?_⟩,(Wk.mk e9 af dk db)⟩
  .grind
  grind
 rw[gq J,uf]at z;simp only[jv]at z;rw[z];have hln:nw.length=e.args.length:=J;simp-dsimp[go_sem,B,h'.len,h'.loc2];refine ox (λh4=>?_) (λh4=>?_)
 .obtain⟨a,rfl⟩:∃a,nw=[a]:=by
   match nw,h4 with
   | [a],_=>exact⟨a,rfl⟩
   | [],h4=>simp at h4
   |_::_::_,h4=>simp at h4;omega
  refine M ?_;refine pf 6 ?_;simp-dsimp[go_sem,B,h'.len,h'.loc,h'.loc1,h'.loc2,h'.sloc1]
  refine o7 (Tq (h'.ext [_,_,_] av) hF s' e.op a ha' J (lE a Z)) ?_;simp only[bG];rcases zt C e.op a s' with⟨hI|w,s2⟩<;>simp-dsimp[go_sem,B,u5,h'.len,h'.loc,h'.loc1,h'.loc2,h'.sloc1]<;>exact⟨_,.refl _,K s2.q,af,ag,aq,h'.und' _,am,ai⟩
 refine nf (λh5=>?_) (λh5=>?_)
 .obtain⟨a,b,rfl⟩:∃a b,nw=[a,b]:=by
   match nw,h5 with
   | [a,b],_=>exact⟨a,b,rfl⟩
   | [],h5=>simp at h5
   | [_],h5=>simp at h5
   |_::_::_::_,h5=>simp at h5;omega
  have dQ:=(lE a Z).2;have hrb:=(lE b Z).2;refine M ?_;refine pf 8 ?_;simp-dsimp[go_sem,B,h'.len,h'.loc,h'.loc1,h'.loc2,h'.sloc1]
  refine o7 (UU e.op a b _ J) ?_;simp only[bG];cases zu e.op a b<;>simp-dsimp[go_sem,B,u5,h'.len,h'.loc,h'.loc1,h'.loc2,h'.sloc1]<;>exact⟨_,.refl _,K s'.q,af,ag,aq,h'.und' _,am,ai⟩
 refine M ?_;refine o7 (pX 1009 _) (M ?_);have ho:bG C e.op nw s'=(.error (ab 1009),s'):=by
  match nw,h4,h5 with
  | [],_,_=>rfl
  | [_],h4,_=>simp at h4
  | [_,_],_,h5=>simp at h5
  |_::_::_::_,_,_=>rfl
 rw[ho];exact Qgk
termination_by SizeOf.sizeOf e
end
section
attribute [local go_sem] mC
variable {C:Cfg} {tT:TypeId} {tx:Nat×Nat} {g m v o io ir ip:Nat}
def qrg(C:Cfg)(tT:TypeId)(tx:Nat×Nat)(g m v o io ir ip:Nat)(l:List St):Prop :=
 ∀{K:MQ->mz} {n0:Nat} (_:tJ C tT tx g m v o io ir ip K n0) (s:MS),Inv 0 0 s->ACalls prog 182 [.ptr m 0,.slice (l.map St.c)] (K s.q) λr Y=>r=uy (re C l s).1/\Y=K (re C l s).2.q
def qls(hF:C.fmt=pw)(hC:bU C){K:MQ->mz}{n0:Nat}(h':tJ C tT tx g m v o io ir ip K n0)(t:St)(p8:t.op=6)(hG:aR t)(s:MS)(z:Inv 8192 1 s)(y6:qrg C tT tx g m v o io ir ip t.body) :
  ACalls prog 232 [.ptr m 0,.agg t.x] (K s.q) λr Y=>r=uy (vj C t s).1/\Y=K (vj C t s).2.q:=by
 refine s8 func232 ntmps232 λE B hh Q hb nl qb=>?_;obtain⟨op,name,mx,a,b,body,els⟩:=t;have qS:=(uO _).1 hG;simp only[St.op,St.a,St.b,St.body,St.els]at qS p8;obtain⟨hA,hB,aF,lH⟩:=qS;subst p8;have dQ:=(hA J)
 have hrb:=(hB J)
 have hmn:=h'.hm;rw[vj];simp only[show ¬((6:Int)=1\/(6:Int)=2)by omega,show ¬(6:Int)=3 by omega,show ¬(6:Int)=4 by omega,show ¬(6:Int)=5 by omega,jg,iz];have r7:=z.st;have qG:=z.rd;simp-dsimp[go_sem,B,h'.len,h'.loc];refine se (yN hF hC (h'.ext [_] av) s a dQ.1 z.rng z.ar (by have:=dQ.2;omega)) ?_;rintro r Y ⟨rfl,rfl⟩;have O:=z.eval hC (r:=4097) dQ;rcases hE:rp C a s with⟨hI|u,s1⟩
 .exact Qgm
 rw[hE]at O;simp only at O;dsimp only;have hrd1:=O.1.rd;have hst1:=O.1.st;simp-dsimp[go_sem,B,u5,h'.len,h'.loc,h'.loc1];refine se (yN hF hC (h'.ext [_,_] av) s1 b hrb.1 O.1.rng O.1.ar (by have:=hrb.2;omega)) ?_;rintro r Y ⟨rfl,rfl⟩;have U:=O.1.eval hC (r:=2) hrb;rcases tu:rp C b s1 with⟨hI|w,s2⟩
 .exact Qgn
 rw[tu]at U;simp only at U;dsimp only;simp-dsimp[go_sem,B,u5,h'.len,h'.loc,h'.loc1,h'.loc2];refine se (eP (decide (u.k=1)&&decide (w.k=1)) _) ?_;rintro r Y ⟨⟨hm,rfl⟩|⟨hm,rfl⟩,rfl⟩<;>simp at hm
 rotate_left
 .refine Qad ?_;simp only[show ¬(u.k=1/\w.k=1)from λk=>hm k.1 k.2,jg];exact Qgl
 simp only[hm.1,hm.2,and_self,iz];simp-dsimp[go_sem,B,h'.len,h'.loc,h'.loc1,h'.loc2]
 repeat refine⟨W,?_⟩
 refine ox (λL=>?_) (λL=>?_)
 .have jR:vP u.n w.n mx:=L;refine M ?_;refine o7 (pX 1005 _) ?_;simp-dsimp[go_sem,B,uy,jR];exact Qgl
 have jR:¬vP u.n w.n mx:=λk=>by have h3:=L k.1;have:=k.2;simp only[St.max]at h3;omega
 simp only[jR,jg];simp-dsimp[go_sem,B,h'.len,h'.loc,h'.loc1,h'.loc2];obtain⟨L0,hL0⟩:∃L0,L0=vq (λy=>re C body y) name w.n 16386 u.n s2:=⟨_,rfl⟩
 rw[<-hL0];refine xS (α:=Nat×Int×MS) (λx=>Cw.Inv 0 0 x.2.2/\i64 x.2.1/\(16386:Int)<=x.2.2.steps+x.1/\L0=vq (λy=>re C body y) name w.n x.1 x.2.1 x.2.2)
  (λx=>⟨[(0,.ptr m 0),(3,.ptr n0 0),(5,.ptr (n0+2) 0),(6,I x.2.1)],K x.2.2.q++[.cells (St.mk 6 name mx a b body els).x,.cells [I 1,I u.n,my u.s],.cells [I 1,I w.n,my w.s]]⟩)
  (λx=>x.1) (16386,u.n,s2) ⟨U.1.mono J J,(O.2 _ rfl).1,by have:=U.1.pt;simp only;omega,hL0⟩ (Wk.mk e9 Z dk db) ?_
 rintro⟨f,i,s3⟩ ⟨hI3,hi,hf,hL⟩;dsimp only at hI3 hi hf hL;have hst3:=hI3.st;obtain⟨f,rfl⟩:∃f',f=f'+1:=⟨f - 1,J⟩
 rw[vq]at hL;simp-dsimp[go_sem,B,h'.len,h'.loc,h'.loc1,h'.loc2];refine ox (λhc=>?_) (λhc=>?_)
 rotate_left
 .rw[gg J]at hL;exact Qgo
 rw[gh hc]at hL;refine M ?_;refine o7 (QI (h'.ext [_,_,_] av) s3 J) ?_;rcases hT:xx s3 with⟨hI|⟨⟩,s4⟩
 .rw[hT]at hL;simp only at hL;rw[hL];refine Qad ?_;exact⟨_,.refl _,K s4.q,af,ag,aq,h'.und' _,am,ai⟩
 rw[hT]at hL;simp only at hL;have hI4:=(hI3.tick hT).vars (oV hi) name;refine Qad ?_;refine pf 8 ?_;simp-dsimp[go_sem,B,h'.len,h'.loc,h'.loc1,h'.loc2,h'.lm',h'.lv',h'.sv',YO];refine o7 (y6 (h'.ext [_,_,_] av) { s4 with vars:=qc s4.vars name (vI i) } (hI4.mono J J)) ?_;rcases hB5:re C body { s4 with vars:=qc s4.vars name (vI i) }with⟨hI|⟨⟩,s5⟩
 .rw[hB5]at hL;simp only at hL;rw[hL];simp-dsimp[go_sem,B,uy,hB5,St.body];exact⟨_,.refl _,K s5.q,af,ag,aq,h'.und' _,am,ai⟩
 rw[hB5]at hL;simp only at hL;simp-dsimp[go_sem,B,uy,hB5,St.body];have qd:=EW (C:=C) body { s4 with vars:=qc s4.vars name (vI i) };have rh:=I8 s3;rw[hB5]at qd;rw[hT]at rh;simp only at qd rh;exact⟨f,p9 (i+1),s5,⟨Am hC body _ _ _ aF (hI4.mono J J) hB5,wC _,J,hL⟩,J,(Wk.mk e9 Z dk db)⟩
end
section
attribute [local go_sem] mC
variable {C:Cfg} {tT:TypeId} {tx:Nat×Nat} {g m v o io ir ip:Nat}
mutual
theorem Fa(hF:C.fmt=pw)(hC:bU C)(l:List St)(hG:∀x∈l,aR x){K:MQ->mz}{n0:Nat}(h':tJ C tT tx g m v o io ir ip K n0)(s:MS)(z:Cw.Inv 0 0 s) :
  ACalls prog 182 [.ptr m 0,.slice (l.map St.c)] (K s.q) λr Y=>r=uy (re C l s).1/\Y=K (re C l s).2.q:=by
 refine cD func182 ntmps182 λE B hh Q hb nl qb=>?_;have hmn:=h'.hm;obtain⟨L0,hL0⟩:∃L0,L0=re C l s:=⟨_,rfl⟩
 rw[<-hL0];refine M ?_;refine u4 (α:=MS) l.length (λn s'=>Cw.Inv 0 0 s'/\L0=re C (l.drop n) s') (λn s'=>⟨[(0,.ptr m 0),(6,.slice (l.map St.c)),(7,I l.length),(8,I n)],K s'.q⟩) s ⟨z,by simpa using hL0⟩ (Wk.mk W Z J db) ?_;rintro n s1 hn ⟨eC,hL⟩;have hw:=oi hn hb.1;have hst1:=eC.st;refine nf (λhc=>?_) (λhc=>?_)
 rotate_left
 .rw[gq J,re]at hL;rw[hL];refine Qad ?_;exact⟨_,.refl _,K s1.q,af,ag,aq,h'.und' _,am,ai⟩
 rw[ov hc,re]at hL;have ni:SizeOf.sizeOf l[n]<SizeOf.sizeOf l:=km (ij hc);simp-dsimp[go_sem,B,hc,h'.len,St.c_eq];refine o7 (QI (h'.ext [_] av) s1 J) ?_;rcases hT:xx s1 with⟨hI|⟨⟩,s2⟩
 .rw[hT]at hL;simp only at hL;rw[hL];refine Qad ?_;exact Qgl
 rw[hT]at hL;simp only at hL;have za:=eC.tick hT;simp-dsimp[go_sem,B,uy,h'.len,h'.loc];refine o7 (qq9 hF hC l[n] (hG _ (ij hc)) (h'.ext [_] av) s2 za) ?_;rcases hS:vj C l[n] s2 with⟨hI|⟨⟩,s3⟩
 .rw[hS]at hL;simp only at hL;exact Qgo
 rw[hS]at hL;simp only at hL;simp-dsimp[go_sem,B,uy,hw];exact⟨hc,s3,⟨GJ hC _ _ _ _ (hG _ (ij hc)) za hS,hL⟩,(Wk.mk e9 Z dk db)⟩
termination_by (SizeOf.sizeOf l,0)
theorem qq9(hF:C.fmt=pw)(hC:bU C)(t:St)(hG:aR t){K:MQ->mz}{n0:Nat}(h':tJ C tT tx g m v o io ir ip K n0)(s:MS)(z:Cw.Inv 8192 1 s) :
  ACalls prog 208 [.ptr m 0,.agg t.x] (K s.q) λr Y=>r=uy (vj C t s).1/\Y=K (vj C t s).2.q:=by
 refine cD func208 ntmps208 λE B hh Q hb nl qb=>?_;have qS:=(uO _).1 hG;have hmn:=h'.hm;obtain⟨hA,hB,aF,lH⟩:=qS;have r7:=z.st;have qG:=z.rd;have sR:=z.pt;have hlB:SizeOf.sizeOf t.body<SizeOf.sizeOf t:=by cases t;simp[St.body];omega
 have hlE:SizeOf.sizeOf t.els<SizeOf.sizeOf t:=by cases t;simp[St.els];omega
 rw[yH];simp-dsimp[go_sem,B,h'.len,h'.loc];by_cases rG:t.op=1\/t.op=2
 .rw[gh rG];have ha:=hA J;have O:=z.eval hC (r:=4097) ha;have hc:=yN hF hC (h'.ext [.cells t.x] av) s t.a ha.1 z.rng z.ar ec;obtain⟨x0,vl⟩:∃x0,x0=rp C t.a s:=⟨_,rfl⟩
  rw[<-vl]at hc|-;refine ox (λh=>?_) (λh=>?_)
  all_goals
   rcases x0 with⟨hI|u,s1⟩
   .try simp-dsimp[go_sem,B]
    refine og (λ_=>?_) (λk=>by simp at k;omega)
    try simp-dsimp[go_sem,B]
    refine AT 10 9 [0,1,2,3,4,5] mixed ah ?_;simp-dsimp[go_sem,B,h'.len,h'.loc,h'.lm',h'.lv'];refine UF (U:=K s1.q++[.cells t.x]) (hc.mono qh2) (Qad ?_);exact⟨_,.refl _,K s1.q,af,ag,aq,h'.und' _,am,ai⟩
   .try simp-dsimp[go_sem,B]
    refine og (λ_=>?_) (λk=>by simp at k;omega)
    try simp-dsimp[go_sem,B]
    refine AT 10 9 [0,1,2,3,4,5] mixed ah ?_;simp-dsimp[go_sem,B,h'.len,h'.loc,h'.lm',h'.lv'];refine B3 (U:=K s1.q++[.cells t.x]) (r:=.agg u.c) (hc.mono qh2) ?_;simp-dsimp[go_sem,B,uy,h'.len,h'.loc,h'.lm',h'.lv',h'.sv'];exact⟨_,.refl _,K (MS.q { s1 with vars:=qc s1.vars t.name u }),af,ag,aq,h'.und' _,am,ai⟩
 rw[gg rG];have h12':¬t.op=1/\¬t.op=2:=J;refine og (λk=>by simp[h12']at k) (λ_=>?_)
 try simp-dsimp[go_sem,B,h12'.1,h12'.2]
 refine ox (λh3=>?_) (λh3=>?_)
 .simp only[h3,iz];have ha:=hA J;have rh:=hB J;have O:=z.eval hC (r:=4097) ha;simp-dsimp[go_sem,B,h'.len,h'.loc];refine o7 (yN hF hC (h'.ext [_] av) s t.a ha.1 z.rng z.ar ec) ?_;rcases hE:rp C t.a s with⟨hI|u,s1⟩
  .exact Qgm
  rw[hE]at O;simp only at O;dsimp only;have hrd1:=O.1.rd;have hst1:=O.1.st;simp-dsimp[go_sem,B,u5,h'.len,h'.loc,h'.loc1];refine se (yN hF hC (h'.ext [_,_] av) s1 t.b rh.1 O.1.rng O.1.ar (by have:=rh.2;omega)) ?_;rintro r Y ⟨rfl,rfl⟩;have U:=O.1.eval hC (r:=2) rh;rcases tu:rp C t.b s1 with⟨hI|w,s2⟩
  .exact Qgn
  rw[tu]at U;simp only at U;dsimp only;simp-dsimp[go_sem,B,u5,h'.len,h'.loc,h'.loc1,h'.loc2]
  repeat refine⟨W,?_⟩
  have hpt2:=U.1.pt;have hst2:=U.1.st;refine se (eP (decide (u.k=2)&&(decide (w.k=1)||decide (w.k=2))) _) ?_;rintro r Y ⟨⟨hm,rfl⟩|⟨hm,rfl⟩,rfl⟩<;>simp at hm
  rotate_left
  .refine Qad ?_;rw[gg J];exact Qgl
  rw[gh hm];simp-dsimp[go_sem,B,h'.len,h'.loc,h'.loc1,h'.loc2];refine se (LC (h'.ext [_,_,_] av) s2 u.s w U.1.ap J) ?_;rintro r Y ⟨rfl,rfl⟩;rcases yl C u.s w s2 with⟨hI|⟨⟩,s3⟩<;>simp-dsimp[go_sem,B,uy]<;>exact⟨_,.refl _,K s3.q,af,ag,aq,h'.und' _,am,ai⟩
 simp only[h3,jg];simp-dsimp[go_sem,B,h'.len,h'.loc];refine ox (λh4=>?_) (λh4=>?_)
 .simp only[h4,iz];have ha:=hA J;have O:=z.eval hC (r:=4097) ha;simp-dsimp[go_sem,B,h'.len,h'.loc];refine o7 (yN hF hC (h'.ext [_] av) s t.a ha.1 z.rng z.ar ec) ?_;rcases hE:rp C t.a s with⟨hI|u,s1⟩
  .exact Qgm
  rw[hE]at O;simp only at O;dsimp only;have hpt1:=O.1.pt;have hst1:=O.1.st;simp-dsimp[go_sem,B,u5,h'.len,h'.loc,h'.loc1];refine se (eP (decide (u.k=2)) _) ?_;rintro r Y ⟨⟨hm,rfl⟩|⟨hm,rfl⟩,rfl⟩<;>simp at hm
  rotate_left
  .exact Qgp
  simp only[hm,iz];simp-dsimp[go_sem,B,h'.len,h'.loc,h'.loc1];refine se (LC (h'.ext [_,_] av) s1 u.s AV.nil O.1.ap J) ?_;rintro r Y ⟨rfl,rfl⟩;rcases yl C u.s AV.nil s1 with⟨hI|⟨⟩,s2⟩<;>simp-dsimp[go_sem,B,uy]<;>exact⟨_,.refl _,K s2.q,af,ag,aq,h'.und' _,am,ai⟩
 simp only[h4,jg];simp-dsimp[go_sem,B,h'.len,h'.loc];refine ox (λh5=>?_) (λh5=>?_)
 .simp only[h5,iz];have ha:=hA J;have O:=z.eval hC (r:=4097) ha;simp-dsimp[go_sem,B,h'.len,h'.loc];refine o7 (yN hF hC (h'.ext [_] av) s t.a ha.1 z.rng z.ar ec) ?_;rcases hE:rp C t.a s with⟨hI|u,s1⟩
  .exact Qgm
  rw[hE]at O;simp only at O;dsimp only;simp-dsimp[go_sem,B,u5,h'.len,h'.loc,h'.loc1];refine se (eP (decide (u.k=3)) _) ?_;rintro r Y ⟨⟨hm,rfl⟩|⟨hm,rfl⟩,rfl⟩<;>simp at hm
  rotate_left
  .exact Qgp
  simp only[hm,iz];simp-dsimp[go_sem,B,h'.len,h'.loc,h'.loc1];refine ox (λhx=>?_) (λhx=>?_)
  .simp only[hx,iz];simp-dsimp[go_sem,B,h'.len,h'.loc,h'.loc1];refine o7 (Fa hF hC t.body aF (h'.ext [_,_] av) s1 (O.1.mono J J)) ?_;rcases re C t.body s1 with⟨hI|⟨⟩,s2⟩<;>simp-dsimp[go_sem,B,uy]<;>exact⟨_,.refl _,K s2.q,af,ag,aq,h'.und' _,am,ai⟩
  simp only[hx,jg];simp-dsimp[go_sem,B,h'.len,h'.loc,h'.loc1];refine o7 (Fa hF hC t.els lH (h'.ext [_,_] av) s1 (O.1.mono J J)) ?_;rcases re C t.els s1 with⟨hI|⟨⟩,s2⟩<;>simp-dsimp[go_sem,B,uy]<;>exact⟨_,.refl _,K s2.q,af,ag,aq,h'.und' _,am,ai⟩
 simp only[h5,jg];simp-dsimp[go_sem,B,h'.len,h'.loc];refine ox (λh6=>?_) (λh6=>?_)
 .rw[gh h6];simp-dsimp[go_sem,B,h'.len,h'.loc];refine se (qls hF hC (h'.ext [_] av) t h6 hG s z (λY' s' hI'=>Fa hF hC t.body aF Y' s' hI')) ?_;rintro r Y ⟨rfl,rfl⟩;rcases vj C t s with⟨hI|⟨⟩,s2⟩<;>simp-dsimp[go_sem,B,uy]<;>exact⟨_,.refl _,K s2.q,af,ag,aq,h'.und' _,am,ai⟩
 simp only[h6,jg];simp-dsimp[go_sem,B,h'.len,h'.loc];refine ox (λh7=>?_) (λh7=>?_)
 .simp only[h7,iz];have ha:=hA J;have O:=z.eval hC (r:=4097) ha;simp-dsimp[go_sem,B,h'.len,h'.loc];refine o7 (yN hF hC (h'.ext [_] av) s t.a ha.1 z.rng z.ar ec) ?_;rcases hE:rp C t.a s with⟨hI|u,s1⟩
  .exact Qgm
  rw[hE]at O;simp only at O;dsimp only;have qx:=O.1.ot;simp-dsimp[go_sem,B,u5,h'.len,h'.loc,h'.loc1]
  repeat refine⟨W,?_⟩
  refine se (eP (decide (u.k=1)||decide (u.k=2)) _) ?_;rintro r Y ⟨⟨hm,rfl⟩|⟨hm,rfl⟩,rfl⟩<;>simp at hm
  rotate_left
  .exact Qgp
  simp only[hm,iz];simp-dsimp[go_sem,B,h'.len,h'.loc,h'.loc1];refine o7 (Tg (h'.ext [_,_] av) s1 u J) ?_;rcases bO u s1 with⟨hI|⟨⟩,s2⟩<;>simp-dsimp[go_sem,B,uy]<;>exact⟨_,.refl _,K s2.q,af,ag,aq,h'.und' _,am,ai⟩
 simp only[h7,jg];simp-dsimp[go_sem,B,h'.len,h'.loc];refine ox (λh8=>?_) (λh8=>?_)
 .simp only[h8,iz];simp-dsimp[go_sem,B,h'.len,h'.loc];refine o7 (pX t.max _) (Qad ?_);exact Qgg
 simp only[h8,jg];refine Qad ?_;exact Qgg
termination_by (SizeOf.sizeOf t,0)
end
end
def qpt(h:mz):ACalls prog 177 [] h λr Y=>r=.ret (.agg bI.c)/\Y=h:=by refine s8 func177 ntmps177 λE B hh Q hb nl qb=>?_;exact Qfc
def Wf(st:List Pr)(ft:Foot)(h:mz):ACalls prog 178 [.slice (st.map Pr.c),.agg ft.c] h λr Y=>r=.ret (.ptr (h.length+3) 0) /\
  Y=h++[.cells ft.c,.map [],.map [],.cells [.slice (st.map Pr.c),Bo ft.all,.slice (ft.reads.map ny),.slice (ft.writes.map ny),.mapr (h.length+1),.mapr (h.length+2),I 0,I 0,.nils,.nils,.nils,.nils,my em,I 0]]:=by
 refine s8 func178 ntmps178 λE B hh Q hb nl qb=>?_;refine M ?_;refine⟨by simp[mL,bD],_,.refl _,_,?_,hwk.refl _,Z,?_,rfl,by rfl⟩
 .simp[go_sem]
 simp[Q,z8 Q,xh,go_sem]
section
variable {c a b d:Nat} {H:TS->mz} {n0:Nat}
def Ii(T:TH c a b d H n0)(s:TS)(name:na)(ty:Int) :
  ACalls prog 259 [.ptr c 0,my name,I ty] (H s) λr Y=>r=.ret (.tuple [])/\Y=H (s.decl name ty):=by
 refine s8 func259 ntmps259 λE B hh Q hb nl qb=>?_;simp-dsimp[go_sem,B,T.lc,T.la,T.ld,T.sa,T.sd];exact⟨_,.refl _,H (s.decl name ty),rfl,by simp[TS.decl],bm,T.und' _,rfl,rfl⟩
def XW(T:TH c a b d H n0)(s:TS)(t:St)(hA:t.op≠8->te t.a 1=0)(hB:t.op=3\/t.op=6->te t.b 1=0) :
  ACalls prog 328 [.ptr c 0,.agg t.x] (H s) λr Y=>r=.ret (.tuple [I (sf s.visible t).1,I (sf s.visible t).2.1,I (sf s.visible t).2.2])/\Y=H s:=by
 refine s8 func328 ntmps328 λE B hh Q hb nl qb=>?_;refine nf (λL=>?_) (λL=>?_)
 .refine M ?_;rw[sf,gh L];exact Qgq
 refine M ?_;refine AT 11 6 [] mixed ah ?_;simp-dsimp[go_sem,B,T.lc',T.la'];refine B3 (Je s.visible t.a 1 (hA L) _ a (T.la' s _)) (M ?_);refine⟨W,?_⟩;refine ox (λO=>?_) (λO=>?_)
 .refine M ?_;refine AT 11 6 [] mixed ah ?_;simp-dsimp[go_sem,B,T.lc',T.la'];refine B3 (Je s.visible t.b 1 (hB O.2) _ a (T.la' s _)) (M ?_);rw[sf,gg L,gh O];exact Qgq
 refine M ?_;rw[sf,gg L,gg J];exact Qgq
set_option maxHeartbeats 4000000 in
mutual
theorem GN{H:TS->mz}{n0:Nat}(T:TH c a b d H n0)(s:TS)(l:List St)(dp:Nat)(hl:eZ l dp) :
  ACalls prog 261 [.ptr c 0,.slice (l.map St.c)] (H s) λr Y=>r=.ret (I (nV l s).1)/\Y=H (nV l s).2:=by
 refine cD func261 ntmps261 λE B hh Q hb nl qb=>?_;refine M ?_;refine u4 (α:=TS) l.length (λn x=>sw (l.drop n) x=sw l s) (λn x=>⟨[(0,.ptr c 0),(1,.slice (l.map St.c)),(10,.slice (l.map St.c)),(11,I l.length),(12,I n)],H x⟩) s Z (Wk.mk W Z (T.und' _) c8) ?_;intro n x hn z;have hw:=oi hn hb.1;refine nf (λhc=>?_) (λhc=>?_)
 .rw[ov hc,sw]at z;have ni:SizeOf.sizeOf l[n]<SizeOf.sizeOf l:=km (ij hc);refine Qab ?_;refine o7 (qlj (T.ext [.cells l[n].x] af) x l[n] dp (hl _ (ij hc))) ?_;refine nf (λO=>?_) (λO=>?_)
  .rw[gh O]at z;refine M ?_;rw[nV,wy,<-z,gh O];exact⟨_,.refl _,H (bY l[n] x).2,rfl,Z,bm,T.und' _,rfl,rfl⟩
  rw[gg J]at z;refine Qaa ?_;exact⟨hc,_,z,Wk.mk fa Z (T.und' _) c8⟩
 rw[gq J,sw]at z;refine M ?_;refine u4 (α:=List (na×Int)) l.length (λn v=>rN (l.drop n) v=rN l x.visible) (λn v=>⟨[(0,.ptr c 0),(23,.slice (l.map St.c)),(24,I l.length),(25,I n)],H ⟨v,x.loops,x.all⟩⟩) x.visible Z (Wk.mk fa Z (T.und' _) c8) ?_;intro n v hn hJ;have hw:=oi hn hb.1;refine nf (λhc=>?_) (λhc=>?_)
 .rw[ov hc,rN]at hJ;refine Qab ?_;refine ox (λO=>?_) (λO=>?_)
  .rw[gh O]at hJ;refine M ?_;refine pf 6 ?_;simp-dsimp[go_sem,B,T.lc',T.la',T.sa',hw];exact⟨hc,_,hJ,Wk.mk fa Z (T.und' _) c8⟩
  rw[gg O]at hJ;refine Qaa ?_;exact⟨hc,_,hJ,Wk.mk fa Z (T.und' _) c8⟩
 rw[gq J,rN]at hJ;refine M ?_;rw[nV,wy,<-z,gg Z,hJ];exact⟨_,.refl _,H ⟨rN l x.visible,x.loops,x.all⟩,rfl,Z,bm,T.und' _,rfl,rfl⟩
termination_by SizeOf.sizeOf l
theorem qlj{H:TS->mz}{n0:Nat}(T:TH c a b d H n0)(s:TS)(t:St)(dp:Nat)(ht:aC t dp) :
  ACalls prog 290 [.ptr c 0,.agg t.x] (H s) λr Y=>r=.ret (I (bY t s).1)/\Y=H (bY t s).2:=by
 refine s8 func290 ntmps290 λE B hh Q hb nl qb=>?_;refine M ?_;refine se (XW (T.ext [.cells t.x] af) s t ?_ ?_) ?_
 .exact λL=>BB ht L
 .exact λL=>Bl ht L
 rintro r Y ⟨rfl,rfl⟩;have aF:=((dZ t dp).1 ht).2.1;have lH:=((dZ t dp).1 ht).2.2;have lt1:=St.body_le t;have lt2:=St.els_le t;have lb0:∀(s:TS) (l:mz),(H s++l).length=n0+l.length:=λs l=>by rw[it,T.len]
 rw[BO,uC];refine nf (λO=>?_) (λO=>?_)
 .rw[gh O];refine M ?_;exact Qgq
 rw[gg J];refine nf (λU=>?_) (λU=>?_)
 .rw[gh U];refine M ?_;refine o7 (Ii (T.ext [.cells t.x] af) s t.name _) (M ?_);exact⟨_,.refl _,H (s.decl t.name (sf s.visible t).1),rfl,Z,bm,T.und' _,an,an⟩
 rw[gg U];refine nf (λh3=>?_) (λh3=>?_)
 .rw[gh h3];refine M ?_;refine pf 11 ?_;rcases hk:pb s.visible t.name with _|ty
  .simp-dsimp[go_sem,B,T.lc',T.la',hk];exact⟨_,.refl _,H s,rfl,Z,bm,T.und' _,an,an⟩
  simp-dsimp[go_sem,B,T.lc',T.la',hk];refine pf 6 ?_;rcases hl:pb s.loops t.name with _|bo
  .simp-dsimp[go_sem,B,T.lc',T.lb',hl];refine ox (λh4=>?_) (λh4=>?_)
   .exact Qgr
   exact Qgr
  simp-dsimp[go_sem,B,T.lc',T.lb',hl];refine og (λh4=>?_) (λh4=>?_)
  .exact Qgr
  refine nf (λh5=>?_) (λh5=>?_)
  .exact Qgr
  exact Qgr
 rw[gg h3];refine nf (λh4=>?_) (λh4=>?_)
 .rw[gh h4];refine M ?_
  repeat refine⟨W,?_⟩
  refine ox (λh5=>?_) (λh5=>?_)
  .exact Qgr
  exact Qgr
 rw[gg h4];refine nf (λh5=>?_) (λh5=>?_)
 .rw[gh h5];refine nf (λh6=>?_) (λh6=>?_)
  .exact Qgr
  exact Qgr
 rw[gg h5];refine nf (λh6=>?_) (λh6=>?_)
 .rw[gh h6];refine nf (λh7=>?_) (λh7=>?_)
  .exact Qgr
  exact Qgr
 rw[gg h6];refine nf (λh7=>?_) (λh7=>?_)
 .rw[gh h7];refine nf (λh8=>?_) (λh8=>?_)
  .exact Qgr
  rw[gg J];refine M ?_;refine o7 (GN (T.ext [.cells t.x] af) s t.body (dp+1) aF) ?_;refine nf (λh9=>?_) (λh9=>?_)
  .refine M ?_;exact⟨_,.refl _,H (nV t.body s).2,rfl,Z,bm,T.und' _,an,an⟩
  rw[gg W];simp-dsimp[go_sem,B,lb0,T.len];refine o7 (GN (T.ext [.cells t.x] af) (nV t.body s).2 t.els (dp+1) lH) (M ?_);exact⟨_,.refl _,H (nV t.els (nV t.body s).2).2,rfl,Z,bm,T.und' _,an,an⟩
 rw[gg h7];refine nf (λh8=>?_) (λh8=>?_)
 .rw[gh h8];refine M ?_
  repeat refine⟨W,?_⟩
  refine ox (λh9=>?_) (λh9=>?_)
  .exact Qgr
  rw[gg W];refine M ?_;refine o7 (Ii (T.ext [.cells t.x] af) s t.name 1) (M ?_);refine pf 6 ?_;simp-dsimp[go_sem,B,T.lc',T.lb',T.sb',T.len];refine o7 (GN (T.ext [.cells t.x] af) ⟨qc s.visible t.name 1,qc s.loops t.name true,qc s.all t.name 1⟩ t.body (dp+1) aF) (M ?_);refine pf 6 ?_;simp-dsimp[go_sem,B,T.lc',T.la',T.sa',T.len];exact⟨_,.refl _,H ⟨oK (nV t.body ⟨qc s.visible t.name 1,qc s.loops t.name true,qc s.all t.name 1⟩).2.visible t.name,(nV t.body ⟨qc s.visible t.name 1,qc s.loops t.name true,qc s.all t.name 1⟩).2.loops,(nV t.body ⟨qc s.visible t.name 1,qc s.loops t.name true,qc s.all t.name 1⟩).2.all⟩,rfl,Z,bm,T.und' _,an,an⟩
 rw[gg h8];exact Qgr
termination_by SizeOf.sizeOf t
end
end
def cI(h:mz)(p:Proc)(s:TS):mz:=h++[.cells p.c,.map (s9 I s.visible),.map (s9 Bo s.loops),.map (s9 I s.all),.cells [.mapr (h.length+1),.mapr (h.length+2),.mapr (h.length+3)]]
def X6(h:mz)(Q:hUnder h.length h=true)(p:Proc):TH (h.length+4) (h.length+1) (h.length+2) (h.length+3) (cI h p) (h.length+5) where
 len:=λs=>by simp[cI]
 hc:=J
 ha:=J
 hb:=J
 hd:=J
 lc:=λs=>by simp[cI]
 la:=λs=>by simp[cI]
 lb:=λs=>by simp[cI]
 ld:=λs=>by simp[cI]
 sa:=λs v=>by simp[cI]
 sb:=λs v=>by simp[cI]
 sd:=λs v=>by simp[cI]
 und:=λs=>by rw[cI,z8 Q];have k1:∀n l,(AObj.map (s9 I l)).under n=true:=F2 (λ_ _=>rfl);have k2:∀n l,(AObj.map (s9 Bo l)).under n=true:=F2 (λ_ _=>rfl);simp only[hUnder,k1,k2,kg,jb];simp[go_sem]
set_option maxHeartbeats 2000000 in
def qku(p:Proc)(h:mz):ACalls prog 224 [.agg p.c] h λr Y=>r=.ret (.tuple [.top,I (jK p)])/\Y=h:=by
 refine cD func224 ntmps224 λE B hh Q hb nl qb=>?_;have T:=X6 h Q p;refine M ?_;refine nc (QW p) ?_;refine nf (λL=>?_) (λL=>?_)
 .refine M ?_;refine⟨.tuple [.top,_],.tuple ⟨.top _,.refl _,trivial⟩,h,?_⟩;rw[jK,gh L];simp[go_sem,Q]
 have oy:p.params.length<=6:=by grind[zo,tM]
 refine M ?_;refine u4 (α:=TS) p.params.length (λn x=>jA (p.params.drop n) x=jA p.params ⟨[],[],[]⟩/\(p.params.drop n).any (λx=>decide (x.ty=3))=p.params.any (λx=>decide (x.ty=3))) (λn x=>⟨[(1,.ptr h.length 0),(5,.ptr (h.length+4) 0),(23,.slice (p.params.map Param.c)),(24,I p.params.length),(25,I n)],cI h p x⟩) ⟨[],[],[]⟩ Z (Wk.mk fa (by simp[go_sem,cI,s9,yf]) (T.und' _) qgz) ?_;intro n x hn ⟨z,hJ⟩;have hw:=oi hn hb.2.1.1;refine nf (λhc=>?_) (λhc=>?_)
 .rw[ov hc]at z hJ;rw[qit]at hJ;rw[jA,kr]at z;refine Qab ?_;refine ox (λO=>?_) (λO=>?_)
  .refine M ?_;refine⟨.tuple [.top,_],.tuple ⟨.top _,.refl _,trivial⟩,h,?_⟩;rw[jK,gg J,gh W];simp[go_sem,Q,cI,hwk.app0]
  refine M ?_;refine o7 (Ii (T.ext [.cells p.params[n].c] af) x p.params[n].name p.params[n].ty) (Qaa ?_);exact⟨hc,_,⟨z,by rw[<-hJ];simp[O]⟩,Wk.mk fa Z (T.und' _) qgz⟩
 rw[gq J]at z hJ;have x0:∀(x:TS) (l:mz),(cI h p x++l)[h.length]?=some (.cells p.c):=λx l=>by simp[cI]
 have x1:∀(x:TS) (o:AObj) (l:mz),(cI h p x++o::l)[h.length+5]?=some o:=λx o l=>by rw[gz (by rw[T.len];omega),T.len,kh];rfl
 have x2:∀(x:TS) (o o':AObj) (l:mz),(cI h p x++o::l).set (h.length+5) o'=cI h p x++o'::l:=λx o o' l=>by rw[ku _ _ (by rw[T.len];omega),T.len,kh];rfl
 have k2:∀n l,(AObj.map (s9 Bo l)).under n=true:=F2 (λ_ _=>rfl);have xu:∀(x:TS) (m:List (na×Bool)),hUnder (cI h p x++[AObj.map (s9 Bo m)]).length (cI h p x++[AObj.map (s9 Bo m)])=true:=λx m=>by rw[it,z8 (T.und' x)];simp only[hUnder,k2,kg]
 simp-dsimp[go_sem,B,x0];refine nc (Yy p J) (M ?_);refine u4 (α:=List (na×Bool)) (gC p).length (λn m=>vJ m ((gC p).drop n)=vJ [] (gC p)) (λn m=>⟨[(1,.ptr h.length 0),(5,.ptr (h.length+4) 0),(8,.mapr (h.length+5)),(41,.slice ((gC p).map ny)),(42,I (gC p).length),(43,I n)],cI h p x++[AObj.map (s9 Bo m)]⟩) [] Z (Wk.mk W (by simp[s9,yf]) (xu _ _) (by simp[go_sem,T.len];try omega)) ?_;intro n m hn hM;have xc:(gC p).length<=407:=by
  have:=Bg bC tz List.length Sm (λs _=>by simp[tz]) p.body 1 (401,p.params.map (·.name))
  simp only[ka]at this;unfold gC;omega
 have hw:=oi hn J;refine nf (λhc=>?_) (λhc=>?_)
 .rw[ov hc,vJ]at hM;rcases hk:pb m (gC p)[n]with _|bo
  .rw[hk]at hM;simp-dsimp[go_sem,B,hc,x1,x2,hk,ny,hw];exact⟨_,hM,Wk.mk W Z (xu _ _) qgz⟩
  rw[hk]at hM;simp-dsimp[go_sem,B,hc,x1,x2,hk,ny,hw];refine og (λO=>?_) (λO=>?_)
  .refine M ?_;refine⟨.tuple [.top,_],.tuple ⟨.top _,.refl _,trivial⟩,h,?_⟩;rw[jK,gg J,gg W,gh W];simp[go_sem,Q,cI,hwk.app0]
  simp-dsimp[go_sem,B,x1,x2,hw];subst O;exact⟨hc,_,hM,Wk.mk W Z (xu _ _) qgz⟩
 rw[gq J,vJ]at hM;have y0:∀(x:TS) (l:mz),(cI h p x++l)[h.length+4]?=some (.cells [.mapr (h.length+1),.mapr (h.length+2),.mapr (h.length+3)]):=λx l=>T.lc' x l;simp-dsimp[go_sem,B,x0];refine o7 (GN (T.ext [AObj.map (s9 Bo m)] (by simp_all[hUnder,kg])) x p.body 1 (CC L)) ?_;simp-dsimp[go_sem,B,y0];refine⟨.tuple [.top,_],.tuple ⟨.top _,.refl _,trivial⟩,h,?_⟩;rw[jK,gg J,gg W,gg W,<-z];simp[go_sem,Q,cI,hwk.app0,jA]
def Oi(p:Proc):APure prog 201 [.agg p.c] (I (jK p)):=by refine od func201 ntmps201 λE h B hh Q hb=>?_;refine M ?_;refine o7 (qku p _) ?_;exact Qek
def Qb(p:Proc)(l:List AV):APure prog 174 [.agg p.c,.slice (l.map AV.c)] (I (gU p l)):=by
 refine ry func174 ntmps174 λE h B hh Q hb=>?_;refine M ?_;refine nc (Oi p) ?_;refine nf (λL=>?_) (λL=>?_)
 .refine M ?_;rw[gU,gh J]
 rw[gU,gg J];have nh:l.length=p.params.length:=J;refine M ?_;refine po l.length (λn=>kG (p.params.drop n) (l.drop n)=kG p.params l) (λn=>⟨[(2,.ptr h.length 0),(20,.slice (l.map AV.c)),(21,I l.length),(22,I n)],h++[.cells p.c]⟩) Z ng ?_;intro n hn z;have hw:=oi hn hb.2.1;refine nf (λhc=>?_) (λhc=>?_)
 .have xn:n<p.params.length:=J;rw[ov hc,ov xn,kG]at z;refine Qai ?_;refine pz (qom l[n].s) Z ?_;simp-dsimp[go_sem,B,xn]
  repeat refine⟨W,?_⟩
  refine og (λO=>?_) (λO=>?_)
  .refine M ?_;rw[<-z];unfold Ah;simp at O;grind
  refine Qaa ?_;refine⟨hc,by rw[<-z];unfold Ah;simp at O;grind,ng⟩
 rw[gq J,gq J]at z;refine M ?_;exact z.symm.trans (by simp[kG])
attribute [local go_sem] Cnt.c Cnt.plus Cnt.times Cnt.larger
set_option maxHeartbeats 1000000 in
def Jm(x y:Cnt):APure prog 226 [.agg x.c,.agg y.c] (.agg (x.plus y).c):=by
 refine od func226 ntmps226 λE h B hh Q hb=>?_;refine M ?_;refine po 4 (λ_=>True) (λn=>⟨[(2,.ptr h.length 0),(3,.ptr (h.length+1) 0),(4,.ptr (h.length+2) 0),(6,I n)],h++[.cells ((x.plus y).c.take n++x.c.drop n),.cells y.c,.cells [I 0,I 0,I 0,I 0]]⟩) trivial ng ?_;intro n hn _;have hw:=oi hn J;have cases:n=0\/n=1\/n=2\/n=3\/n=4:=J;rcases cases with rfl|rfl|rfl|rfl|rfl
 .exact Qgs
 .exact Qgs
 .exact Qgs
 .exact Qgs
 exact Qek
set_option maxHeartbeats 1000000 in
def qse(x y:Cnt):APure prog 266 [.agg x.c,.agg y.c] (.agg (x.larger y).c):=by
 refine od func266 ntmps266 λE h B hh Q hb=>?_;refine M ?_;refine po 4 (λ_=>True) (λn=>⟨[(2,.ptr h.length 0),(3,.ptr (h.length+1) 0),(4,.ptr (h.length+2) 0),(6,I n)],h++[.cells ((x.larger y).c.take n++x.c.drop n),.cells y.c,.cells [I 0,I 0,I 0,I 0]]⟩) trivial ng ?_;intro n hn _;have hw:=oi hn J;have cases:n=0\/n=1\/n=2\/n=3\/n=4:=J;rcases cases with rfl|rfl|rfl|rfl|rfl
 .exact Qgt
 .exact Qgt
 .exact Qgt
 .exact Qgt
 exact Qek
set_option maxHeartbeats 1000000 in
def WP(x:Cnt)(k:Int):APure prog 267 [.agg x.c,I k] (.agg (x.times k).c):=by
 refine od func267 ntmps267 λE h B hh Q hb=>?_;refine M ?_;refine po 4 (λ_=>True) (λn=>⟨[(1,I k),(2,.ptr h.length 0),(4,.ptr (h.length+1) 0),(6,I n)],h++[.cells ((x.times k).c.take n++x.c.drop n),.cells [I 0,I 0,I 0,I 0]]⟩) trivial ng ?_;intro n hn _;have hw:=oi hn J;have cases:n=0\/n=1\/n=2\/n=3\/n=4:=J;rcases cases with rfl|rfl|rfl|rfl|rfl
 .exact Qgu
 .exact Qgu
 .exact Qgu
 .exact Qgu
 exact Qek
attribute [local go_sem] Cnt.c
def AK(e:Ex):APure prog 265 [.agg e.x] (I (eM e)):=by
 refine ry func265 ntmps265 λE h B hh Q hb=>?_;rw[qmk];obtain⟨hr,hG⟩:∃hr:Int,hr=if e.op=22\/e.op=23\/e.op=24 then 1 else 0:=⟨_,rfl⟩
 rw[<-hG];refine nf (λO=>?_) (λO=>?_)
 .simp-dsimp[go_sem,B,ki O];have hv:hr=1:=J;refine u4 (α:=Int) e.args.length (λn m=>dS (e.args.drop n) m=dS e.args hr) (λn m=>⟨[(1,.ptr h.length 0),(3,I m),(13,.slice (e.args.map Ex.c)),(14,I e.args.length),(15,I n)],h++[.cells e.x]⟩) hr Z (ng ew) ?_;intro n m hn z;have hw:=oi hn hb.2.1;refine nf (λhc=>?_) (λhc=>?_)
  .exact Qgv
  exact Qgw
 refine nf (λU=>?_) (λU=>?_)
 .simp-dsimp[go_sem,B,ki U];have hv:hr=1:=J;refine u4 (α:=Int) e.args.length (λn m=>dS (e.args.drop n) m=dS e.args hr) (λn m=>⟨[(1,.ptr h.length 0),(3,I m),(13,.slice (e.args.map Ex.c)),(14,I e.args.length),(15,I n)],h++[.cells e.x]⟩) hr Z (ng ew) ?_;intro n m hn z;have hw:=oi hn hb.2.1;refine nf (λhc=>?_) (λhc=>?_)
  .exact Qgv
  exact Qgw
 refine nf (λh3=>?_) (λh3=>?_)
 .refine M ?_;have hv:hr=1:=J;refine u4 (α:=Int) e.args.length (λn m=>dS (e.args.drop n) m=dS e.args hr) (λn m=>⟨[(1,.ptr h.length 0),(3,I m),(13,.slice (e.args.map Ex.c)),(14,I e.args.length),(15,I n)],h++[.cells e.x]⟩) hr Z (ng ew) ?_;intro n m hn z;have hw:=oi hn hb.2.1;refine nf (λhc=>?_) (λhc=>?_)
  .exact Qgv
  exact Qgw
 refine M ?_;have hv:hr=0:=J;refine u4 (α:=Int) e.args.length (λn m=>dS (e.args.drop n) m=dS e.args hr) (λn m=>⟨[(1,.ptr h.length 0),(3,I m),(13,.slice (e.args.map Ex.c)),(14,I e.args.length),(15,I n)],h++[.cells e.x]⟩) hr Z (ng ew) ?_;intro n m hn z;have hw:=oi hn hb.2.1;refine nf (λhc=>?_) (λhc=>?_)
 .exact Qgv
 exact Qgw
termination_by SizeOf.sizeOf e
mutual
theorem TJ(t:St):APure prog 227 [.agg t.x] (.agg (Bi t).c):=by
 refine od func227 ntmps227 λE h B hh Q hb=>?_;have lt1:=St.body_le t;have lt2:=St.els_le t;rw[PV];refine nf (λh8=>?_) (λh8=>?_)
 .refine M ?_;refine nc (AK t.a) ?_;refine nf (λh3=>?_) (λh3=>?_)<;>simp-dsimp[go_sem,B]
  .refine pf 5 ?_;simp-dsimp (maxSteps:=1000000) [go_sem,B];refine p7 (AK t.b) Z ?_;simp-dsimp[go_sem,B,oG];simp[lZ,h3]
  refine ox (λh4=>?_) (λh4=>?_)<;>simp-dsimp[go_sem,B]
  .simp[lZ,h4]
  refine ox (λh7=>?_) (λh7=>?_)<;>simp-dsimp[go_sem,B]
  .simp[lZ,h7]
  refine ox (λh5=>?_) (λh5=>?_)<;>simp-dsimp[go_sem,B]
  .refine pf 8 (M ?_);refine p7 (GW t.body) Z (M ?_);refine p7 (GW t.els) Z (M ?_);refine p7 (qse (yp t.body) (yp t.els)) Z (M ?_);refine nc (Jm ⟨1,eM t.a,0,0⟩ ((yp t.body).larger (yp t.els))) (M ?_);rw[gh h5];simp[lZ,h5]
  refine ox (λh6=>?_) (λh6=>?_)<;>simp-dsimp[go_sem,B]
  .refine pf 5 (M ?_);refine p7 (AK t.b) Z ?_;simp-dsimp[go_sem,B,oG];refine pf 7 (M ?_);refine p7 (GW t.body) Z (M ?_);refine p7 (WP (yp t.body) t.max) Z (M ?_);refine nc (Jm ⟨p9 (1+t.max),mn (p9 (eM t.a+eM t.b)) 16385,0,0⟩ ((yp t.body).times t.max)) (M ?_);rw[gg J,gh h6];simp[lZ,h6]
  rw[gg h5,gg h6];simp[lZ,h3,h4,h5,h6,h7,h8]
 refine M ?_;refine og (λh3=>by simp at h3;omega) (λh3=>?_);simp at h3;refine M ?_;refine og (λh4=>by simp at h4;omega) (λh4=>?_);simp at h4;refine M ?_;refine og (λh7=>by simp at h7;omega) (λh7=>?_);simp at h7;refine M ?_;refine og (λh5=>by simp at h5;omega) (λh5=>?_);simp at h5;refine M ?_;refine og (λh6=>by simp at h6;omega) (λh6=>?_);simp at h6;refine M ?_;rw[gg h5,gg h6];simp[lZ,h3,h4,h5,h6,h7,h8]
termination_by SizeOf.sizeOf t
theorem GW(l:List St):APure prog 204 [.slice (l.map St.c)] (.agg (yp l).c):=by
 refine ry func204 ntmps204 λE h B hh Q hb=>?_;refine M ?_;refine u4 (α:=Cnt) l.length (λn c=>uD (l.drop n) c=yp l) (λn c=>⟨[(2,.ptr h.length 0),(3,.ptr (h.length+1) 0),(6,.slice (l.map St.c)),(7,I l.length),(8,I n)],h++[.cells [I 0,I 0,I 0,I 0],.cells c.c]⟩) ⟨0,0,0,0⟩ Z (ng (by simp[go_sem,Cnt.c])) ?_;intro n c hn z;have hw:=oi hn hb.1;refine nf (λhc=>?_) (λhc=>?_)
 .rw[ov hc,uD]at z;have ni:SizeOf.sizeOf l[n]<SizeOf.sizeOf l:=km (ij hc);refine Qab ?_;refine pf 3 (Qab ?_);refine p7 (TJ l[n]) Z (Qab ?_);refine nc (Jm c (Bi l[n])) ?_;simp-dsimp[go_sem,B,hc,hw];exact⟨_,z,ng⟩
 rw[gq J,uD]at z;refine M ?_;subst z;simp[Cnt.c]
termination_by SizeOf.sizeOf l
end
def L1{l:Nat}{HF:Nat->mz}{HX:Nat->Ex->mz}{vf:Ex->Bool}{n0:Nat}(h':YH prog l HF HX vf n0)(e:Ex)(k:Nat) :
  ACalls prog 295 [.agg e.x,.fn (.yield l) [] []] (HF k) λr Y=>r=.ret (Bo (aL vf (qD e) k).2.isNone)/\Y=fI HF HX (aL vf (qD e) k):=by
 refine GH func295 rfl ah (by simp[ntmps295]) ?_;intro E B hh Q hb nl qb;rw[ntmps295]at B;simp[go_sem]at hb;have y0:∀(k:Nat) (x:AObj) (h0:mz),(HF k++x::h0)[n0]?=some x:=λk x h0=>by rw[gz dn,h'.len,kh];rfl
 have y1:∀(k:Nat) (hI:Ex) (x:AObj) (h0:mz),(HX k hI++x::h0)[n0]?=some x:=λk hI x h0=>by rw[gz (by rw[h'.lenX];omega),h'.lenX,kh];rfl
 refine Dr (pM _ _ _ _ ?_);simp-dsimp[go_sem,B,h'.len,y0];refine Dr (Dr (Qz ah ?_));simp-dsimp[go_sem,B,h'.len,y0];have rY:∀(r:Nat×Option Ex),(fI HF HX r).length=n0:=λr=>by
  unfold fI;split
  .exact h'.len _
  exact h'.lenX _ _
 have hfu:∀(r:Nat×Option Ex),hUnder (fI HF HX r).length (fI HF HX r)=true:=λr=>by
  rw[rY];unfold fI;split
  .exact h'.und _
  exact h'.undX _ _
 refine(h'.y k e _).mono ?_;rintro r Y ⟨r7,hsf⟩;rw[Ty];cases hs:vf e with
 |true =>
  obtain⟨rfl,rfl⟩:=r7 hs;refine M ?_;refine K2 (yd _ _ _ ?_);refine M ?_;refine⟨[],rfl,qiz,Z,?_⟩;simp-dsimp[go_sem,B,oQ];exact⟨_,.refl _,HX k e,rfl,Z,by simp[h'.len,h'.lenX],by rw[h'.lenX];exact h'.undX _ _,Z,by simp[fI]⟩
 |false =>
  obtain⟨rfl,rfl⟩:=hsf hs;refine M ?_;refine K2 (yd _ _ _ ?_);refine M ?_;refine K2 (yd _ _ _ ?_);simp-dsimp[go_sem,B,h'.len,y0];refine u4 (α:=Nat) e.args.length (λn m=>aL vf (dI (e.args.drop n)) m=aL vf (dI e.args) (k+1)) (λn m=>⟨[(1,.fn (.yield l) [] []),(12,.slice (e.args.map Ex.c)),(13,I e.args.length),(14,I n)],HF m⟩) (k+1) Z (Wk.mk e9 Z qgh af) ?_;intro n m hn z;have hw:=oi hn hb.2.1;refine nf (λhc=>?_) (λhc=>?_)
  .rw[ov hc,Sd]at z;have ni:SizeOf.sizeOf e.args[n]<SizeOf.sizeOf e:=Ex.arg_lt (ij hc);simp-dsimp[go_sem,B,hc,h'.len,y0];refine o7 (L1 (h'.ext [.cells e.args[n].x] af) e.args[n] m) ?_;rcases hq:aL vf (qD e.args[n]) m with⟨m',_|y⟩
   .rw[hq]at z;simp-dsimp[go_sem,B,hw,fI];exact⟨hc,_,z,Wk.mk e9 Z qgh af⟩
   rw[hq]at z;simp only at z;simp-dsimp[go_sem,B,fI];refine⟨[],rfl,qiz,Z,?_⟩;rw[<-z];simp-dsimp[go_sem,B,oQ,fI];exact⟨_,.refl _,HX m' y,rfl,Z,by simp[h'.len,h'.lenX],by rw[h'.lenX];exact h'.undX _ _,rfl,rfl⟩
  rw[gq J,dI,aL]at z;refine M ?_;refine⟨[],rfl,qiz,Z,?_⟩;rw[<-z];simp-dsimp[go_sem,B,oQ,fI];exact⟨_,.refl _,HF m,rfl,Z,aq,qgh,rfl,rfl⟩
termination_by SizeOf.sizeOf e
def WK{l:Nat}{HF:Nat->mz}{HX:Nat->Ex->mz}{vf:Ex->Bool}{n0:Nat}(h':YH prog l HF HX vf n0)(e:Ex)(k i:Nat)(hi:(HF k)[i]?=some (.cells e.x)) :
  ACalls prog 294 [.fn (.yield l) [] [],.ptr i 0] (HF k) λr Y=>r=.ret (.tuple [])/\Y=fI HF HX (aL vf (qD e) k):=by
 refine s8 func294 ntmps294 λE B hh Q hb nl qb=>?_;simp-dsimp[go_sem,B,hi];refine o7 (L1 h' e k) (M ?_);refine⟨_,.refl _,fI HF HX (aL vf (qD e) k),rfl,hwk.refl _,?_,?_,rfl,rfl⟩
 .unfold fI;split<;>simp[h'.len,h'.lenX]
 unfold fI;split
 .rw[h'.len];exact h'.und _
 rw[h'.lenX];exact h'.undX _ _
theorem Vj:mL Value.nilFunc=.val .nilFunc:=rfl
def qmw(e:Ex)(h:mz):ACalls prog 263 [.agg e.x] h λr Y=>r=.ret (.fn (.func 294) [] [.ptr h.length 0])/\Y=h++[.cells e.x]:=by refine s8 func263 ntmps263 λE B hh Q hb nl qb=>?_;simp-dsimp[go_sem,B,Vj];exact⟨_,.refl _,_,ca,hwk.refl _,Z,by rw[it,z8 Q];simp[go_sem],rfl,rfl⟩
def ZN(p:Proc)(h:mz):ACalls prog 225 [.agg p.c] h λr Y=>r=.ret (.tuple [I (tI p).1,I (IntKind.i64.wrap (tI p).2.1),Bo (tI p).2.2])/\Y=h:=by
 refine GH func225 rfl ah (by simp[ntmps225]) ?_;intro E B hh Q hb nl qb;rw[ntmps225]at B;simp[go_sem]at hb;refine pM _ _ _ _ (M ?_);refine nc (QW p) ?_;refine nf (λL=>?_) (λL=>?_)
 .refine M ?_;refine⟨[],rfl,qiz,Z,?_⟩;simp-dsimp[go_sem,B,oQ];rw[tI,gh L];exact Qfi
 rw[tI,gg J];have mE:(yt p).length<=401:=by have:=Bg eR mM List.length (λs _ _=>by simp[eR]) (λs _=>by simp[mM]) p.body 1 (401,[]);simp only[ju]at this;grind[yt]
 refine M ?_;refine nc (qo6 p) (M ?_);obtain⟨T,hT⟩:∃T:V->V->V->V->mz,T=λa b d f=>h++[.cells p.c,.cells [a],.cells [b],.cells [d],.cells [f]]:=⟨_,rfl⟩
 have fX:∀a b d f,(T a b d f).length=h.length+5:=λa b d f=>by rw[hT];simp
 have g1:∀a b d f (ac:mz),(T a b d f++ac)[h.length+1]?=some (.cells [a]):=λa b d f ac=>by rw[hT];simp
 have g2:∀a b d f (ac:mz),(T a b d f++ac)[h.length+2]?=some (.cells [b]):=λa b d f ac=>by rw[hT];simp
 have g3:∀a b d f (ac:mz),(T a b d f++ac)[h.length+3]?=some (.cells [d]):=λa b d f ac=>by rw[hT];simp
 have g4:∀a b d f (ac:mz),(T a b d f++ac)[h.length+4]?=some (.cells [f]):=λa b d f ac=>by rw[hT];simp
 have s1:∀a b d f a' (ac:mz),(T a b d f++ac).set (h.length+1) (.cells [a'])=T a' b d f++ac:=λa b d f a' ac=>by rw[hT];simp
 have s2:∀a b d f a' (ac:mz),(T a b d f++ac).set (h.length+2) (.cells [a'])=T a a' d f++ac:=λa b d f a' ac=>by rw[hT];simp
 have s3:∀a b d f a' (ac:mz),(T a b d f++ac).set (h.length+3) (.cells [a'])=T a b a' f++ac:=λa b d f a' ac=>by rw[hT];simp
 have s4:∀a b d f a' (ac:mz),(T a b d f++ac).set (h.length+4) (.cells [a'])=T a b d a'++ac:=λa b d f a' ac=>by rw[hT];simp
 have hTu:∀(a b:Int) (d:Bool) (f:Int),hUnder (h.length+5) (T (I a) (I b) (Bo d) (I f))=true:=λa b d f=>by rw[hT,z8 Q];simp[go_sem]
 obtain⟨hN,hB⟩:∃hN:Nat->mz,hN=λ(k:Nat)=>T (I 0) (I 0) (Bo false) (I (IntKind.i64.wrap (k:Int))):=⟨_,rfl⟩
 have hBl:∀k,(hN k).length=h.length+5:=λk=>by rw[hB,fX]
 have hBu:∀k,hUnder (h.length+5) (hN k)=true:=λk=>by rw[hB,hT,z8 Q];simp[go_sem]
 refine I0 (ι:=Nat×Nat×List (Option Nat)) (λi=>i.1<=(yt p).length/\aL (λe=>uP e.op) (dI ((yt p).drop i.1)) i.2.1=aL (λe=>uP e.op) (dI (yt p)) 0)
  (λi=>(dM i.2.2,⟨[(2,.ptr (h.length+1) 0),(3,.ptr (h.length+2) 0),(4,.ptr (h.length+3) 0),(5,.ptr (h.length+4) 0),(13,.slice ((yt p).map Ex.c)),(14,I (yt p).length),(15,I i.1)],hN i.2.1++gM i.2.2⟩)) (λi=>(yt p).length - i.1) (0,0,[]) ⟨Z,Z⟩ rfl ?_ ?_
 .simp only[gM,kf,jv,hB,hT];exact(Wk.mk bb af cy af)
 rintro⟨n,k,ms⟩ ⟨hn,z⟩;simp only at hn z;have hw:=oi hn J;refine pM _ _ _ _ ?_;refine nf (λhc=>?_) (λhc=>?_)
 .rw[ov hc,Sd]at z;refine Qab ?_;refine se (qmw (yt p)[n] _) ?_;rintro r Y ⟨rfl,rfl⟩;refine M ?_;have hBu':∀k h0 m,hUnder (h.length+5+m) h0=true->hUnder (h.length+5+m) (hN k++h0)=true:=λk h0 m hL=>by
   rw[xh,aQ J (hBu k),hL];rfl
  have hgu:=Oq;obtain⟨hr,hG⟩:∃hr:mz,hr=gM ms++[.cells (yt p)[n].x,.cells (yt p)[n].x]:=⟨_,rfl⟩
  have hGu:∀m,hUnder m hr=true:=λm=>by rw[hG,xh,hgu];simp[go_sem]
  obtain⟨X,hX⟩:∃X:Nat->Ex->mz,X=λ(j:Nat) (x:Ex)=>T (I x.op) (I (IntKind.i64.wrap (j:Int))) (Bo true) (I (IntKind.i64.wrap (j:Int))):=⟨_,rfl⟩
  have pT:∀j x,(X j x).length=h.length+5:=λj x=>by rw[hX,fX]
  have hXu:∀j x,hUnder (h.length+5) (X j x)=true:=λj x=>by rw[hX,hT,z8 Q];simp[go_sem]
  refine Tz (e1:=⟨[(2,.ptr (h.length+1) 0),(3,.ptr (h.length+2) 0),(4,.ptr (h.length+3) 0),(5,.ptr (h.length+4) 0),(13,.slice ((yt p).map Ex.c)),(14,I (yt p).length),(15,I n),(20,.fn (.func 294) [] [.ptr (h.length+5+(gM ms).length+1) 0])],hN k++hr⟩) (Wk.mk W cy (by rw[it,hBl];exact hBu' _ _ _ (hGu _)) (by rw[hG];simp[go_sem,hBl,qjl];try omega)) ?_;have hGl:hr.length=(gM ms).length+2:=W;refine qst (gf:=294) (pk:=[.ptr (h.length+5+(gM ms).length+1) 0]) rfl (λH=>rfl) (λj=>hN j++hr) (λj x=>X j x++hr) (λe=>uP e.op) (qD (yt p)[n]) k (h.length+5+hr.length) rfl
   (λj=>by rw[it,hBl]) (λj x=>by rw[it,pT]) (λj=>hBu' _ _ _ (hGu _)) (λj x=>by rw[xh,aQ J (hXu j x),hGu];rfl) ?_ W ?_ ?_ ?_ ?_
  .rw[B,hGl];simp[slots,List.range,List.range.loop,go_sem];omega
  .intro l h0 HX n1 h';refine WK h' (yt p)[n] k _ ?_;rw[jf,gz W,hBl,hG,show h.length+5+(gM ms).length+1 - (h.length+5)=(gM ms).length+1 by omega,jf,gz J,show(gM ms).length+1 - (gM ms).length=1 by omega];rfl
  .intro E' l D j x h0 r0 rb rd G jB iE gJ rB;rw[B]at jB;have n0l:∀a b d f (PA:mz) (o o':AObj),(T a b d f++(hr++o::o'::PA))[h.length+5+hr.length+1]?=some o':=λa b d f PA o o'=>by
    rw[<-jf,gz W,it,fX,show h.length+5+hr.length+1 - (h.length+5+hr.length)=1 by omega];rfl
   have n0s:∀a b d f (PA:mz) (o o' y:AObj),(T a b d f++(hr++o::o'::PA)).set (h.length+5+hr.length+1) y=T a b d f++(hr++o::y::PA):=λa b d f PA o o' y=>by rw[<-jf,ku _ _ W,it,fX,show h.length+5+hr.length+1 - (h.length+5+hr.length)=1 by omega,jf];rfl
   have zl:∀a b d f (o o' y:AObj),(T a b d f++(hr++o::o'::(h0++[y])))[h.length+5+(hr.length+(h0.length+1+1))]?=some y:=λa b d f o o' y=>by rw[<-jf,gz W,it,fX,show h.length+5+(hr.length+(h0.length+1+1)) - (h.length+5+hr.length)=h0.length+2 by omega];simp
   have zs:∀a b d f (o o' y hI:AObj),(T a b d f++(hr++o::o'::(h0++[y]))).set (h.length+5+(hr.length+(h0.length+1+1))) hI=T a b d f++(hr++o::o'::(h0++[hI])):=λa b d f o o' y hI=>by rw[<-jf,ku _ _ W,it,fX,show h.length+5+(hr.length+(h0.length+1+1)) - (h.length+5+hr.length)=h0.length+2 by omega,jf];simp
   have hEl:E'.h.length=h.length+5+hr.length+2+h0.length:=W;have hLu:hUnder (h.length+5+hr.length+2+h0.length) h0=true:=by
    rw[hEl,iE,xh,gy]at gJ
    simp_all[hUnder,gy]
   have fin:∀(a b:Int) (d:Bool) (f:Int) (r:AObj),r.under (h.length+5+hr.length+2+h0.length)=true->Wk E' ⟨[],T (I a) (I b) (Bo d) (I f)++(hr++uj D::r::(h0++[.cells x.x]))⟩ ⟨[],T (I a) (I b) (Bo d) (I f)++(hr++uj D::r::h0)⟩:=λa b d f r iW=>by
    refine Wk.mk ?_ ?_ ?_ trivial
    .simp_all
    .exact CG.2 (CG.2 ⟨.refl _,.refl _,hwk.app0 _⟩)
    have e1:(T (I a) (I b) (Bo d) (I f)++(hr++uj D::r::h0)).length=h.length+5+hr.length+2+h0.length:=by simp[fX];omega
    show hUnder (T (I a) (I b) (Bo d) (I f)++(hr++uj D::r::h0)).length _=true;rw[e1,xh,aQ J (hTu a b d f),xh,hGu];have hm0:(uj D).under (h.length+5+hr.length+2+h0.length)=true:=rfl
    simp_all[hUnder,kg]
   have hrm:=G (h.length+5+hr.length+2+h0.length) J;rw[iE,B];simp only[hB,hX,jf];refine pM _ _ _ _ ?_;simp-dsimp[slots,List.range,List.range.loop,go_sem,jB,fX,zl,zs,n0l,n0s];refine pM _ _ _ _ ?_;simp-dsimp[go_sem,jB,fX,zl];refine nc (qrd x.op) ?_;simp-dsimp[go_sem,jB,fX,zl];refine og (λhx=>?_) (λhx=>?_)
   .simp-dsimp[go_sem,jB,fX,zl];refine qm4 4 mixed ah ah ?_;simp-dsimp[go_sem,jB,fX,zl,g1,g2,g3,g4,s1,s2,s3];refine⟨by simp[ww,List.zipIdx];omega,?_⟩;refine⟨n0l _ _ _ _ _ _ _,T (I x.op) (I (IntKind.i64.wrap (j:Int))) (Bo true) (I (IntKind.i64.wrap (j:Int)))++(hr++uj D::rd::h0),?_,λ_=>⟨rfl,rfl⟩,λhh=>by rw[hx]at hh;cases hh⟩;rw[n0s];grind
   simp-dsimp[go_sem,jB,fX,zl,g4,s4];rw[T3];refine⟨n0l _ _ _ _ _ _ _,T (I 0) (I 0) (Bo false) (I (IntKind.i64.wrap ((j:Int)+1)))++(hr++uj D::r0::h0),?_,λhh=>W,λ_=>⟨rfl,Z⟩⟩;rw[n0s];grind
  .intro j D o hs;rw[hs]at z;simp only at z;refine Qaa ?_;refine⟨n+1,j,⟨J,z⟩,J,ms++[none,none,some D],(qok ms D).symm,Wk.mk W ?_ ?_ (by simp[go_sem,hBl];try omega)⟩
   .rw[hG,qsm,jf];exact CG.2 (CG.2 ⟨trivial,trivial,.refl _,trivial⟩)
   grind[it,xh,aQ,Oq]
  intro j x D o hs;rw[hs]at z;simp only at z;refine M ?_;refine⟨(h.length+5+ms.length+2,D)::lN (h.length+5) ms,by rw[jd,Hi],?_,?_,?_⟩
  .rw[jd,l7];refine⟨λhm=>?_,Gm _ _⟩;rw[ig]at hm;obtain⟨q,hq,he⟩:=hm;have:=AA _ _ q hq;omega
  .intro q hq;show(X j x++(hr++[uj D,o]))[q.1]?=_;rcases iq.1 hq with rfl|hq
   .rw[gz W,pT,hG,jf,gz (by grind[gM])];grind[gM,ka]
   obtain⟨q1,q2,q3⟩:=AA _ _ q hq;grind
  obtain⟨Z',hZ⟩:=Fl ((h.length+5+ms.length+2,D)::lN (h.length+5) ms) (X j x) (hr++[uj D,o]) (λq hq=>by
   rw[pT];rcases iq.1 hq with rfl|hq
   .omega
   exact(AA _ _ q hq).1)
  show zA _ _ _ _ ⟨_,oQ ((h.length+5+ms.length+2,D)::lN (h.length+5) ms) (X j x++(hr++[uj D,o]))⟩;rw[hZ,hX];have hf:=Ol (dI (yt p)) 0;rw[<-z]at hf;simp only at hf;rw[show((0:Nat):Int)=0 from rfl]at hf;exact Qgx
 rw[gq J,dI,aL]at z;simp-dsimp[go_sem,B,hB,g1,g2,g3,s1,s2,s3];refine⟨lN (h.length+5) ms,(Hi _ _).symm,Gm _ _,?_,?_⟩
 .intro q hq;obtain⟨q1,q2,q3⟩:=AA _ _ q hq;grind
 obtain⟨Z',hZ⟩:=Fl (lN (h.length+5) ms) (T (I 0) (I 0) (Bo false) (I (IntKind.i64.wrap (k:Int)))) (gM ms) (λq hq=>by rw[fX];exact(AA _ _ q hq).1)
 show zA _ _ _ _ ⟨_,oQ (lN (h.length+5) ms) (T (I 0) (I 0) (Bo false) (I (IntKind.i64.wrap (k:Int)))++gM ms)⟩;rw[hZ];have hf:=Ol (dI (yt p)) 0;rw[<-z]at hf;simp only at hf;rw[show((0:Nat):Int)=0 from rfl]at hf;exact Qgx
def qlt(p:Proc):APure prog 203 [.agg p.c] (I (lS p)):=by
 refine od func203 ntmps203 λE h B hh Q hb=>?_;refine M ?_;refine nc (Oi p) ?_;refine nf (λL=>?_) (λL=>?_)
 .refine M ?_;grind[lS]
 refine M ?_;refine o7 (ZN p _) (M ?_);refine og (λO=>?_) (λO=>?_)
 .refine M ?_;grind[lS]
 refine M ?_;grind[lS]
attribute [local go_sem] Cnt.c
def WX(p:Proc):APure prog 175 [.agg p.c] (I (aO p)):=by
 refine od func175 ntmps175 λE h B hh Q hb=>?_;rw[aO];refine M ?_;refine nc (qlt p) ?_;refine nf (λL=>?_) (λL=>?_)
 .refine M ?_;exact λk=>absurd k L
 rw[gg J];refine M ?_;refine nc (GW p.body) ?_;refine nf (λO=>?_) (λO=>?_)
 .refine M ?_;exact λk=>absurd k J
 rw[gg J];refine nf (λU=>?_) (λU=>?_)
 .exact Qgy
 refine nf (λh3=>?_) (λh3=>?_)
 .exact Qgy
 refine nf (λh4=>?_) (λh4=>?_)
 .refine M ?_;exact λ_=>J
 exact Qfb
section
attribute [local go_sem] mC
variable {C:Cfg} {v o io ir ip:Nat}
def Uq{h:mz}{m:Nat}(q:MQ)(hm:h[m]?=some (.cells (mC C v o io ir ip q)))(hir:h[ir]?=some (.arr 9 1 (q.reads.map ny)))(hip:h[ip]?=some (.arr 9 1 (q.puts.map ny)))
  (G:q.nr=q.reads.length) (hp:q.np=q.puts.length) (hI:Stop) :
  ACalls prog 179 [.ptr m 0,.agg [I hI.status,I hI.code,.slice [],my hI.miss],Bo true] h λr Y=>r=.ret (.agg [I hI.status,I hI.code,.slice [],.slice (q.reads.map ny),.slice (q.puts.map ny),.slice [],my hI.miss,I q.steps])/\Y=h:=by
 refine s8 func179 ntmps179 λE B hh Q hb nl qb=>?_;have lm:m<h.length:=(gn.1 hm).1;have lr:ir<h.length:=(gn.1 hir).1;have lp:ip<h.length:=(gn.1 hip).1;have gm:∀l:mz,(h++l)[m]?=some (.cells (mC C v o io ir ip q)):=λl=>by rw[gu lm];exact hm
 have gr:∀l:mz,(h++l)[ir]?=some (.arr 9 1 (q.reads.map ny)):=λl=>by rw[gu lr];exact hir
 have gp:∀l:mz,(h++l)[ip]?=some (.arr 9 1 (q.puts.map ny)):=λl=>by rw[gu lp];exact hip
 simp-dsimp[go_sem,B,gm];refine aW 6 mixed ah (M ?_);refine⟨qgk,?_⟩
 try simp-dsimp[go_sem,B]
 refine⟨_,.refl _,h,by simp[go_sem,gr,gp,G,hp],hwk.app0 _,gj _,Q,?_,rfl⟩;simp[gr,gp,G,hp]
@[simp] theorem qw4(o:Option AV):(Option.map aT o).getD (.agg [I 0,I 0,my ⟨#[]⟩])=.agg (o.getD AV.nil).c:=by cases o<;>rfl
def BT(own:List (na×AV))(k:na):Pr:=⟨k,(pb own k).getD AV.nil⟩
def qqk{h:mz}{m:Nat}(q:MQ)(hm:h[m]?=some (.cells (mC C v o io ir ip q)))(hio:h[io]?=some (.arr 57 3 (q.out.map AV.c)))(hir:h[ir]?=some (.arr 9 1 (q.reads.map ny)))(hip:h[ip]?=some (.arr 9 1 (q.puts.map ny)))
  (ho:h[o]?=some (.map (s9 aT q.own))) (hn:q.no=q.out.length) (G:q.nr=q.reads.length) (hp:q.np=q.puts.length) (hl:q.puts.length+1<=68719476736) :
  ACalls prog 179 [.ptr m 0,.agg [I 0,I 0,.slice [],my em],Bo false] h λr Y=>r=.ret (.agg [I 1,I 0,.slice (q.out.map AV.c),.slice (q.reads.map ny),.slice (q.puts.map ny),.slice ((q.puts.map (BT q.own)).map Pr.c),my em,I q.steps])/\Y=h:=by
 obtain⟨qv,qo,qout,qr,qp,qno,qnr,qnp,qs⟩:=q;simp only at hn G hp hl;subst hn;subst G;subst hp;simp only at hio hir hip ho;refine s8 func179 ntmps179 λE B hh Q hb nl qb=>?_;have lm:m<h.length:=(gn.1 hm).1;have lo:o<h.length:=(gn.1 ho).1;have lio:io<h.length:=(gn.1 hio).1;have lr:ir<h.length:=(gn.1 hir).1;have lp:ip<h.length:=(gn.1 hip).1;have gm:∀l:mz,(h++l)[m]?=some (.cells (mC C v o io ir ip ⟨qv,qo,qout,qr,qp,qout.length,qr.length,qp.length,qs⟩)):=λl=>by rw[gu lm];exact hm
 have go:∀l:mz,(h++l)[o]?=some (.map (s9 aT qo)):=λl=>by rw[gu lo];exact ho
 have gi:∀l:mz,(h++l)[io]?=some (.arr 57 3 (qout.map AV.c)):=λl=>by rw[gu lio];exact hio
 have gr:∀l:mz,(h++l)[ir]?=some (.arr 9 1 (qr.map ny)):=λl=>by rw[gu lr];exact hir
 have gp:∀l:mz,(h++l)[ip]?=some (.arr 9 1 (qp.map ny)):=λl=>by rw[gu lp];exact hip
 simp-dsimp[go_sem,B,gm,gp];refine po qp.length (λn=>True) (λn=>⟨[(0,.ptr m 0),(6,.ptr (h.length+1) 0),(7,.ptr (h.length+2) 0),(25,.slice (qp.map ny)),(26,I qp.length),(27,I n)],h++[.cells [I 0,I 0,.slice [],my em],.cells [I 0,I 0,.nils,.nils,.nils,.nils,my em,I 0],.cells [I 1,I 0,.own io qout.length,.own ir qr.length,.own ip qp.length,.own (h.length+3) n,my em,I qs],.arr 59 4 (((qp.take n).map (BT qo)).map Pr.c)]⟩) trivial ((pJ E _ (p:=h.length+2) (j:=5) (t:=59) (sz:=4) (xs:=[I 1,I 0,.own io qout.length,.own ir qr.length,.own ip qp.length,.nils,my em,I qs]) Z rfl).trans ?_) ?_
 .simp;exact(AB E _).trans (Wk.mk bb Z (by simp[Q,z8 Q,go_sem];omega) (by simp[go_sem,gp];omega))
 intro n lC _;have hw:=oi lC J;refine nf (λhc=>?_) (λhc=>?_)
 .refine Qab ?_;refine pf 11 ?_;simp-dsimp[go_sem,B,gm,go,hw];refine⟨J,J,hc,?_⟩;rw[show(qp.map (Pr.c∘BT qo)).take (n+1)=(qp.map (Pr.c∘BT qo)).take n++[Pr.c (BT qo qp[n])]by rw[jn W];simp];exact Wk.mk bb (by simp[go_sem,BT]) (by simp[Q,z8 Q,go_sem];omega) co
 refine M ?_;have hnq:n=qp.length:=J;subst hnq;rw[ll Z];refine⟨_,.refl _,h,by simp[go_sem,gi,gr,gp],hwk.app0 _,gj _,Q,?_,rfl⟩;simp[gi,gr,gp]
end
section
attribute [local go_sem] mC
theorem VJ(n:Nat)(l:List (na×AV)):(AObj.map (s9 aT l)).under n=true:=F2 (f:=aT) (λn a=>by simp[V.under,AV.c,q9]) n l
theorem Ro(n:Nat)(l:List (na×AV)):(∀(a b:V),(a,b)∈s9 aT l->V.under n a=true/\V.under n b=true)=True:=by refine eq_true λa b sW=>?_;obtain⟨s,x,rfl,rfl⟩:=OV sW;simp[V.under,AV.c,q9]
theorem Un(m:List (na×AV)):lA [] [] m=m:=rfl
def qn6(st:List Pr)(ft:Foot)(fmt:Int->na)(h mw h0:mz){g:Nat}{tb:AObj}{tV tS:Nat}(hg:h[g]?=some tb)(Q:hUnder h.length h=true)(a l:Nat)(hA:mw.length=a)(hL:h0.length=l)(uA:hUnder (h.length+(a+l+7)) mw=true)(uL:hUnder (h.length+(a+l+7)) h0=true) :
  MH (ya fmt st ft) tb tV tS g (h.length+(a+3)) (h.length+(a+1)) (h.length+(a+2)) (h.length+(a+l+4)) (h.length+(a+l+5)) (h.length+(a+l+6))
   (λq=>h++(mw++(.cells ft.c::.map (s9 aT q.vars)::.map (s9 aT q.own)::.cells (mC (ya fmt st ft) (h.length+(a+1)) (h.length+(a+2)) (h.length+(a+l+4)) (h.length+(a+l+5)) (h.length+(a+l+6)) q)::(h0++[.arr tV 3 (q.out.map AV.c),.uarr tS 1 (q.reads.map ny),.uarr tS 1 (q.puts.map ny)])))) (h.length+(a+l+7)):=by
 have rU:g<h.length:=(gn.1 hg).1;subst hA;subst hL;have e1:∀(X:mz) (k:Nat),(h++X)[h.length+k]?=X[k]?:=λX k=>by rw[gz J];congr 1;omega
 have e2:∀(X:mz) (k:Nat),(mw++X)[mw.length+k]?=X[k]?:=λX k=>by rw[gz J];congr 1;omega
 have e3:∀(X:mz) (k:Nat),(h0++X)[h0.length+k]?=X[k]?:=λX k=>by rw[gz J];congr 1;omega
 have s1:∀(X:mz) (k:Nat) (y:AObj),(h++X).set (h.length+k) y=h++X.set k y:=λX k y=>by rw[ku _ _ J];congr 2;omega
 have s2:∀(X:mz) (k:Nat) (y:AObj),(mw++X).set (mw.length+k) y=mw++X.set k y:=λX k y=>by rw[ku _ _ J];congr 2;omega
 have s3:∀(X:mz) (k:Nat) (y:AObj),(h0++X).set (h0.length+k) y=h0++X.set k y:=λX k y=>by rw[ku _ _ J];congr 2;omega
 have e4:∀(a b c d:AObj) (X:mz) (k:Nat),(a::b::c::d::(h0++X))[h0.length+4+k]?=X[k]?:=λa b c d X k=>by
  rw[show h0.length+4+k=(h0.length+k)+1+1+1+1 by omega]
  simp_all
 have s4:∀(a b c d y:AObj) (X:mz) (k:Nat),(a::b::c::d::(h0++X)).set (h0.length+4+k) y=a::b::c::d::(h0++X.set k y):=λa b c d y X k=>by
  rw[show h0.length+4+k=(h0.length+k)+1+1+1+1 by omega]
  simp_all
 have i0:h.length+(mw.length+h0.length+4)=h.length+(mw.length+(h0.length+4+0)):=J;have i1:h.length+(mw.length+h0.length+5)=h.length+(mw.length+(h0.length+4+1)):=J;have i2:h.length+(mw.length+h0.length+6)=h.length+(mw.length+(h0.length+4+2)):=J;constructor
 case lg=>intro q;rw[gu rU];exact hg
 case len=>intro q;simp;omega
 case und =>
  intro q;rw[xh,aQ (Nat.le_add_right _ _) Q,xh,uA];simp only[hUnder,VJ,xh,uL,jb,kg];simp[AObj.under,V.under,q9,mC,Foot.c];omega
 case lm=>intro q;rw[e1,e2];rfl
 case lv=>intro q;rw[e1,e2];rfl
 case lo=>intro q;rw[e1,e2];rfl
 case lio=>intro q;rw[i0,e1,e2,e4];rfl
 case lir=>intro q;rw[i1,e1,e2,e4];rfl
 case lip=>intro q;rw[i2,e1,e2,e4];rfl
 case sm=>intro q no nr np s;rw[s1,s2];rfl
 case sv=>intro q x;rw[s1,s2];rfl
 case so=>intro q x;rw[s1,s2];rfl
 case sio=>intro q x;simp only[i0,s1,s2,s4];rfl
 case sir=>intro q x;simp only[i1,s1,s2,s4];rfl
 case sip=>intro q x;simp only[i2,s1,s2,s4];rfl
 all_goals omega
variable {C:Cfg} {tT:TypeId} {tx:Nat×Nat} {g m v o io ir ip:Nat} {K:MQ->mz} {n0:Nat}
def UP(hF:C.fmt=pw)(hC:bU C)(p:Proc)(hG:∀x∈p.body,aR x)(h':tJ C tT tx g m v o io ir ip K n0)(s:MS)(z:Cw.Inv 0 0 s){a b:Nat}(ha:∀q,(K q)[a]?=some (.cells [.ptr m 0]))(hb0:∀q,(K q)[b]?=some (.cells p.c)) :
  ACalls prog 181 [.ptr a 0,.ptr b 0] (K s.q) λr Y=>r=uy (re C p.body s).1/\Y=K (re C p.body s).2.q:=by
 refine s8 func181 ntmps181 λE B hh Q hb nl qb=>?_;simp-dsimp[go_sem,B,ha,hb0];refine o7 (Fa hF hC p.body hG h' s z) ?_;rcases re C p.body s with⟨hI|⟨⟩,s1⟩<;>simp-dsimp[go_sem,B,uy]<;>exact⟨_,.refl _,K s1.q,af,ag,aq,h'.und' _,am,ai⟩
abbrev effZ:AObj:=.cells [I 0,I 0,.nils,.nils,.nils,.nils,my em,I 0]
def EC:Except Stop Unit->List V
 | .ok _=>zs
 | .error hI=>[I hI.status,I hI.code,.slice [],my hI.miss]
def LD:Except Stop Unit->Bool
 | .ok _=>false
 | .error _=>true
@[simp] theorem qu7(H:mz)(x:Except Stop Unit):qu H (EC x)=EC x:=by cases x<;>rfl
@[simp] theorem qtx(n:Nat)(x:Except Stop Unit):q9 n (EC x)=true:=by cases x<;>rfl
theorem Z4{a:V}{f:FuncId}{pk:List V}{h O:mz}{x:Except Stop Unit}(hl:O.length=h.length)(Q:hUnder h.length O=true)(hc:∀H,qu H pk=pk)(hg:ACalls prog f pk (h++[.cells [I 0,I 0,.nils,my em],.cells [Bo false]]) λr Y=>r=uy x/\Y=O++[.cells [I 0,I 0,.nils,my em],.cells [Bo false]]) :
  ACalls prog 180 [a,.fn (.func f) [] pk] h λr Y=>r=.ret (.tuple [.agg (EC x),Bo (LD x)])/\Y=O:=by
 refine Xk a (g:=f) (first:=[]) (pk:=pk) (by rw[ke,hc];exact hg) ?_ ?_
 .rintro r Y ⟨rfl,rfl⟩ _;have e1:(O++[AObj.cells [I 0,I 0,.nils,my em],AObj.cells [Bo false]])[h.length]?=some (.cells [I 0,I 0,.nils,my em]):=W;have e2:(O++[AObj.cells [I 0,I 0,.nils,my em],AObj.cells [Bo false]])[h.length+1]?=some (.cells [Bo false]):=W;have e3:(O++[AObj.cells [I 0,I 0,.nils,my em],AObj.cells [Bo false]]).take h.length=O:=W;refine⟨⟨_,e1,rfl⟩,⟨_,e2⟩,by rw[e3];exact Q,?_⟩;rw[e3];rcases x with hI|u
  .exact⟨rfl,rfl,qgy,rfl,rfl⟩
  exact⟨rfl,rfl⟩
 rintro Y st ⟨O,_⟩ H;rcases x with hI|u
 .simp only[uy,qY,AEnd.panic.injEq,V.iface.injEq,V.agg.injEq,true_and]at O;subst O;rfl
 cases O
def qqd{h:mz}(x:Except Stop Unit)(s:MS)(hm:h[m]?=some (.cells (mC C v o io ir ip s.q)))(hio:h[io]?=some (.arr 57 3 (s.out.map AV.c)))(hir:h[ir]?=some (.arr 9 1 (s.reads.map ny)))(hip:h[ip]?=some (.arr 9 1 (s.puts.map ny)))
  (ho:h[o]?=some (.map (s9 aT s.own))) (hl:s.puts.length+1<=68719476736) :
  ACalls prog 179 [.ptr m 0,.agg (EC x),Bo (LD x)] h λr Y=>r=.ret (.agg (kZ (x,s)).c)/\Y=h:=by
 rcases x with hI|u
 .exact Uq s.q hm hir hip rfl rfl hI
 exact qqk s.q hm hio hir hip ho rfl rfl rfl hl
def qr2(p:Proc)(args:List AV)(st:List Pr)(ft:Foot)(h:mz)(hg:h[g]?=some (fZ tT tx))(z:RunIn pw p args st) :
  ACalls prog 145 [.agg p.c,.slice (args.map AV.c),.slice (st.map Pr.c),.agg ft.c] h λr Y=>r=.ret (.agg (un pw p args st ft).c)/\Y=h:=by
 refine cD func145 ntmps145 λE B hh Q hb nl qb=>?_;refine M ?_;refine nc (WX p) (M ?_);refine pz (Qb p args) Z (M ?_);refine pz (zW st) Z (M ?_);refine pz (qm9 ft.all ft.reads ft.writes) Z (M ?_)
 repeat refine⟨W,?_⟩
 refine ox (λL=>?_) (λL=>?_)
 .have qz:¬dK p args st ft:=by rw[nB];grind
  rw[oU qz];refine M ?_;refine o7 (qpt _) (M ?_);exact Qgz
 have pg:dK p args st ft:=by rw[nB];grind
 have zi:=(nB _ _ _ _).1 pg;have oy:=(FT zi.2.1).1;rw[rA pg];refine M ?_;refine o7 (Wf st ft _) (M ?_);have h':=qn6 (tb:=fZ tT tx) (tV:=57) (tS:=9) st ft pw h [.cells p.c,.cells ft.c,effZ] [.cells [.ptr (h.length+6) 0]] hg Q 3 1 rfl rfl (by simp[hUnder,AObj.under,V.under,q9,Proc.c,Foot.c]) av;simp only[mb,ke,Nat.reduceAdd]at h';refine u4 (α:=List (na×AV)) p.params.length (λn vs=>lA (p.params.drop n) (args.drop n) vs=lA p.params args []) (λn vs=>⟨[(1,.slice (args.map AV.c)),(4,.ptr h.length 0),(8,.ptr (h.length+2) 0),(9,.ptr (h.length+7) 0),(36,.slice (p.params.map Param.c)),(37,I p.params.length),(38,I n)],h++[.cells p.c,.cells ft.c,effZ,.cells ft.c,.map (s9 aT vs),.map (s9 aT []),.cells (mC (ya pw st ft) (h.length+4) (h.length+5) (h.length+8) (h.length+9) (h.length+10) ⟨vs,[],[],[],[],0,0,0,0⟩),.cells [.ptr (h.length+6) 0],.arr 57 3 [],.uarr 9 1 [],.uarr 9 1 []]⟩) [] Z ?_ ?_
 .refine(pJ E _ (p:=h.length+6) (j:=8) (t:=57) (sz:=3) (xs:=[.slice (st.map Pr.c),Bo ft.all,.slice (ft.reads.map ny),.slice (ft.writes.map ny),.mapr (h.length+4),.mapr (h.length+5),I 0,I 0,.nils,.nils,.nils,.nils,my em,I 0]) Z rfl).trans ?_;simp;refine(CW E _ (p:=h.length+6) (j:=9) (t:=9) (sz:=1) (xs:=[.slice (st.map Pr.c),Bo ft.all,.slice (ft.reads.map ny),.slice (ft.writes.map ny),.mapr (h.length+4),.mapr (h.length+5),I 0,I 0,.own (h.length+8) 0,.nils,.nils,.nils,my em,I 0]) Z rfl).trans ?_;simp;refine(CW E _ (p:=h.length+6) (j:=10) (t:=9) (sz:=1) (xs:=[.slice (st.map Pr.c),Bo ft.all,.slice (ft.reads.map ny),.slice (ft.writes.map ny),.mapr (h.length+4),.mapr (h.length+5),I 0,I 0,.own (h.length+8) 0,.own (h.length+9) 0,.nils,.nils,my em,I 0]) Z rfl).trans ?_;simp[s9,yf];exact ng
 intro n vs hn za;have hw:=oi hn hb.1.2.1.1;refine nf (λhc=>?_) (λhc=>?_)
 .have sq:n<args.length:=J;refine Qab ?_;refine pf 10 ?_;simp-dsimp[go_sem,B,hc,sq,hw];refine⟨qc vs p.params[n].name args[n],?_,Wk.mk bb af (by simp[Q,z8 Q,go_sem,Ro]) af⟩;grind[ov,lA]
 rw[gq hc,gq J,Un]at za;subst za;obtain⟨x,s1,hB⟩:∃x s1,re (ya pw st ft) p.body (iQ p args)=(x,s1):=⟨_,_,rfl⟩
 have hd:=(Ce (C:=ya pw st ft) (λq hq=>z.st q hq) p.body 1 (iQ p args) (A8 zi.1) (BM zi.1 z.body) (Cj z)).pu;rw[hB]at hd;have xc:=QQ zi.1;have hlim:=F9 zi.1;simp only[ju,im]at hd;have Y2:=h'.ext [.cells [I 0,I 0,.nils,my em],.cells [Bo false]] av;have G:=UP (C:=ya pw st ft) rfl (λq hq=>z.st q hq) p (BM zi.1 z.body) Y2 (iQ p args) (Cj z) (a:=h.length+7) (b:=h.length) Z Z;rw[hB]at G;have pj:=Z4 (a:=.ptr (h.length+6) 0) Z (by simp[xh,Q,aQ,z8 Q,go_sem,Ro,MS.q]) (λH=>by simp[qu,V.norm]) G;refine M ?_;refine AT 6 3 [0] mixed ah (M ?_);refine B3 pj (M ?_);obtain⟨Hd,hHd⟩:∃Hd:AObj->AObj->mz,∀u1 u2,Hd u1 u2=h++[.cells p.c,.cells ft.c,effZ,.cells ft.c,.map (s9 aT s1.vars),.map (s9 aT s1.own),.cells (mC (ya pw st ft) (h.length+4) (h.length+5) (h.length+8) (h.length+9) (h.length+10) s1.q),.cells [.ptr (h.length+6) 0],.arr 57 3 (s1.out.map AV.c),u1,u2]:=⟨λu1 u2=>_,λ_ _=>rfl⟩
 have uc:∀E,Wk E ⟨[],Hd (.uarr 9 1 (s1.reads.map ny)) (.uarr 9 1 (s1.puts.map ny))⟩ ⟨[],Hd (.arr 9 1 (s1.reads.map ny)) (.arr 9 1 (s1.puts.map ny))⟩:=λE=>by
  have d1:=tX E ⟨[],Hd (.uarr 9 1 (s1.reads.map ny)) (.uarr 9 1 (s1.puts.map ny))⟩ (i:=h.length+9) (t:=9) (sz:=1) (S:=s1.reads.map ny) e8;have d2:=tX E ⟨[],Hd (.arr 9 1 (s1.reads.map ny)) (.uarr 9 1 (s1.puts.map ny))⟩ (i:=h.length+10) (t:=9) (sz:=1) (S:=s1.puts.map ny) e8;refine d1.trans ?_;have e1:(Hd (.uarr 9 1 (s1.reads.map ny)) (.uarr 9 1 (s1.puts.map ny))).set (h.length+9) (.arr 9 1 (s1.reads.map ny))=Hd (.arr 9 1 (s1.reads.map ny)) (.uarr 9 1 (s1.puts.map ny)):=e8
  simp_all
 have rY:=qqd (C:=ya pw st ft) (m:=h.length+6) (v:=h.length+4) (o:=h.length+5) (io:=h.length+8) (ir:=h.length+9) (ip:=h.length+10) (h:=Hd (.arr 9 1 (s1.reads.map ny)) (.arr 9 1 (s1.puts.map ny))) x s1 e8 e8 e8 e8 e8 J;have hfin2:=Hz uc rY;rw[hHd,hHd]at hfin2;refine o7 hfin2 (M ?_);rw[hB];exact Qgz
end
