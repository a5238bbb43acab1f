/- Part 37 of a proof. -/
import Derived.Shelf.Small.Strs
import Derived.Shelf.Strconv.Itoa4
import Derived.Lib.ItoaLen
import Derived.Test.YtolejdhnnchfpaaGreatDoorQ32
set_option linter.all false
namespace Go.Proofs.YtolejdhnnchfpaaGreatDoor
open Go Go.Abs Go.Cw Go.Proofs.Tryz
@[simp] theorem jnj:xb4 prog 20=true:=ae
theorem xzz{c:Ctx}{h:g9}{w:World}(hs:HSim c h w){i4 i5:Nat}{vs:Array Value}(ha:RelL c [.ptr i4 0,.ptr i5 0] vs) :
  CallsD prog 206 vs .returning w λe u' w'=>(∃v,e=.returned v)/\u'=.returning/\∃c',HSim c' h w'/\(⟨12,c,h,w⟩:Ent).ok c' h w':=by
 refine callsD_of_wpS func206 rfl λc₀ cs hu=>?_;have s0:=xe3 (N:=12) hs ha ac;refine wpS_seq (wpS_region ?_);simp[wpOpsS,go_sem,recoverD,hu,Exit.thenS,ntmps206];obtain⟨q1,q2,q3,q4,q5,q6,q7⟩:=c₀;simp only at hu;subst hu;have s1:=s0.put (.refl c) hs (d:=some 5) ac (Rel.val Value.nilIface);refine xtz (E:=⟨12,c,h,w⟩) (c₀:=⟨q1,q2,q3,q4,.returning,q6,q7⟩) (U:=.returning) (cs:=cs) (fn:=Tryz.f206) s1 (Ent.ok.refl 12 hs) (H:=h) (n0:=h.length) (cn _) ?_;refine jo _ _ _ ?_;have hN:(⟨12,c,h,w⟩:Ent).N=12:=rfl;have wo:=hs.hUnder;simp-dsimp[go_sem,hN,Tryz.f206,wo];exact⟨.tuple [],.refl _,h,rfl,hwk.refl _,cn _,wo,rfl,rfl⟩
@[simp] theorem jm7:qtv prog 232=some (.agg [I 0,I 0,.nils,S em]):=ae
theorem jfk{c:Ctx}{h:g9}{w:World}(hs:HSim c h w){i4 i5:Nat}{vs:Array Value}(ha:RelL c [.ptr i4 0,.ptr i5 0] vs){st:List AV}(kn:st.length=4)(x4:List AV)(h4:h[i4]?=some (.cells x4))(hx4:x4.length=4)(x5:AV)(h5:h[i5]?=some (.cells [x5]))(h45:i4≠i5)(hds:st.all AV.one=true)
  {v:Value} (hv:Rel c (.iface 232 (.agg st)) v) :
  CallsD prog 206 vs (.panicking [⟨v,false,false⟩]) w λe u' w'=>(∃v,e=.returned v)/\u'=.panicking [⟨v,true,false⟩]/\∃c',HSim c' ((h.set i4 (.cells st)).set i5 (.cells [Bo true])) w'/\(⟨12,c,h,w⟩:Ent).ok c' ((h.set i4 (.cells st)).set i5 (.cells [Bo true])) w':=by
 refine callsD_of_wpS func206 rfl λc₀ cs hu=>?_;have s0:=xe3 (N:=12) hs ha ac;refine wpS_seq (wpS_region ?_);simp[wpOpsS,go_sem,recoverD,hu,Exit.thenS,ntmps206];have s1:=s0.put (.refl c) hs (d:=some 5) ac hv;refine xtz (E:=⟨12,c,h,w⟩) (c₀:=c₀) (U:=.panicking [⟨v,true,false⟩]) (cs:=cs) (fn:=Tryz.f206) s1 (Ent.ok.refl 12 hs) (H:=(h.set i4 (.cells st)).set i5 (.cells [Bo true])) (n0:=h.length) (cn _) ?_;refine jo _ _ _ ?_;have hN:(⟨12,c,h,w⟩:Ent).N=12:=rfl;have wo:=hs.hUnder;have l4:i4<h.length:=(cm.1 h4).1;have l5:i5<h.length:=(cm.1 h5).1;obtain⟨a,b,d,e,rfl⟩:∃a b d e,st=[a,b,d,e]:=by
  match st,kn with
  | [a,b,d,e],_=>exact⟨a,b,d,e,rfl⟩
 have zh:lj h.length [a,b,d,e]=true:=by
  have:=hv.under hs.dom;simpa[AV.under]using this
 have a4:(h++[AObj.cells [a,b,d,e]])[i4]?=some (.cells x4):=af;have a5:((h++[AObj.cells [a,b,d,e]]).set i4 (AObj.cells [a,b,d,e]))[i5]?=some (.cells [x5]):=af;simp-dsimp[go_sem,hN,Tryz.f206,wo,a4,a5,hx4];rw[show x4.drop 4=[]from cq aa,a5];refine⟨ac,.tuple [],.refl _,_,rfl,?_,?_,?_,rfl,rfl⟩
 .simp_all
 .simp
 .grind[gz,AObj.under,lj,AV.under,qh]
def zs:List AV:=[I 0,I 0,.slice [],S em]
theorem jjy(m:AV){g:FuncId}{first caps:List AV}{h:g9}{Rg R:AEnd->g9->Prop}(hg:ACalls prog g (ko (h++[.cells [I 0,I 0,.nils,S em],.cells [Bo false]]) (first++caps)) (h++[.cells [I 0,I 0,.nils,S em],.cells [Bo false]]) Rg)
  (hR:∀r h',Rg r h'->h.length+2<=h'.length->(∃x4,h'[h.length]?=some (.cells x4)/\x4.length=4)/\(∃x5,h'[h.length+1]?=some (.cells [x5]))/\hUnder h.length (h'.take h.length)=true/\match r with
   | .ret _=>R (.ret (.tuple [.agg zs,Bo false])) (h'.take h.length)
   | .panic (.iface 232 (.agg st))=>st.length=4/\st.all AV.one=true/\lj h.length st=true/\R (.ret (.tuple [.agg st,Bo true])) (h'.take h.length)
   |_=>False) (hst':∀h' st,Rg (.panic (.iface 232 (.agg st))) h'->∀H,ko H st=st):ACalls prog 180 [m,.fn (.func g) first caps] h R:=by
 refine⟨⟨_,func180,ae,ae⟩,λc w vs hs ha=>?_⟩;refine calls_of_wp_defers func180 rfl ?_;have s0:=xe3 (N:=10) hs ha ac;have k0:=Ent.ok.refl 10 hs;rw[ntmps180];refine wp_seq (wp_mono ((xr3 (E:=⟨10,c,h,w⟩) (Q:=λx e=>x=.normal/\e=⟨[(5,.ptr (h.length+1) 0),(4,.ptr h.length 0),(0,m),(1,.fn (.func g) first caps)],h++[.cells [I 0,I 0,.nils,S em],.cells [Bo false]]⟩) ?_) c _ w s0 k0) ?_)
 .have hN:(⟨10,c,h,w⟩:Ent).N=10:=rfl;simp-dsimp[go_sem,hN]
 rintro ex a1 w1 ⟨x',e1,c1,⟨rfl,rfl⟩,hx,s1,k1⟩;cases ex<;>simp only[XR]at hx;show Code.wp _ _ _ a1 w1;have t4:=s1.tmps 4;have t5:=s1.tmps 5;have t1:=s1.tmps 1;simp[ji]at t4 t5 t1;refine wp_seq (wp_region_list ?_);have sz:a1.tmps.size=10:=s1.size;have df:a1.defers=[]:=s1.defers;obtain⟨tm,dfs⟩:=a1;simp only at sz df;subst df;simp[wpList,go_sem,Oper.wp,Oper.upon,Instr.makeFunc,sz];refine .inl (.inl ?_);have s3:=s1.put (.refl c1) s1.hs (d:=some 6) ac (Rel.top (Value.func (Fn.func 206) #[] #[tm[4],tm[5]]));have E3:({ tmps:=tm.setIfInBounds 6 (Value.func (Fn.func 206) #[] #[tm[4],tm[5]]),defers:=[{ target:=Target.fn (Fn.func 206) #[tm[4],tm[5]],args:=#[] }] }:Act)=nb [{ target:=Target.fn (Fn.func 206) #[tm[4],tm[5]],args:=#[] }] (({ tmps:=tm,defers:=[] }:Act).put (some 6) (Value.func (Fn.func 206) #[] #[tm[4],tm[5]])):=rfl;rw[E3];have hd4:∀c',c1.le c'->RelL c' [.ptr h.length 0,.ptr (h.length+1) 0] #[tm[4],tm[5]]:=λc' ij=>⟨rfl,λj x v hx hv=>by
  match j with
  | 0=>simp at hx hv;subst hx;subst hv;simpa[sz]using t4.mono ij
  | 1=>simp at hx hv;subst hx;subst hv;simpa[sz]using t5.mono ij
  |j+2=>simp at hx⟩
 -- what stands behind the deferred call
 have fin:∀(c5:Ctx) (e5:Env) (a5:Act) (w5:World) (hf:g9) (st:List AV) (b:Bool),Sim 10 c5 e5 a5 w5->(⟨10,c,h,w⟩:Ent).ok c5 e5.h w5->ji e5.t 4=.ptr h.length 0->ji e5.t 5=.ptr (h.length+1) 0 ->
   e5.h[h.length]?=some (.cells st)->st.length=4->lj h.length (ko e5.h st)=true->e5.h[h.length+1]?=some (.cells [Bo b])->hwk e5.h hf->hf.length=h.length->hUnder h.length hf=true->R (.ret (.tuple [.agg (ko e5.h st),Bo b])) hf ->
   ∃v,(results Tryz.f180 a5.tmps).run prog w5=.ok v w5/\∃r h',R r h'/\∃x,EndR x r (.returned v)/\HSim x h' w5/\(⟨0,c,h,w⟩:Ent).ok x h' w5:=by
  intro c5 e5 a5 w5 hf st b s5 k5 l4 l5 g4 kn zh g5 hw hl hu hRR;obtain⟨v,hv,hr⟩:=xel (E:=⟨10,c,h,w⟩) (P:=prog) s5 Tryz.f180 (by
   simp[Tryz.f180,go_sem,l4,l5,g4,g5,kn])
  have nk:(qxh ((Tryz.f180).results.toList.map λr=>(qry prog e5 r).val))=.tuple [.agg st,Bo b]:=by
   have ht:st.take 4=st:=fw aa;simp[Tryz.f180,go_sem,l4,l5,g4,g5,ht]
  rw[nk]at hr;obtain⟨c6,q1,q2,q3⟩:=finish (E:=⟨10,c,h,w⟩) s5 k5 hr (r':=.tuple [.agg (ko e5.h st),Bo b]) (h':=hf) (by simp[AV.norm,ko]) (by grind[AV.under,lj]) hw qgk af;exact⟨v,hv,_,hf,hRR,c6,q3,q1,q2.withN 0⟩
 have k3:(⟨10,c1,h++[.cells [I 0,I 0,.nils,S em],.cells [Bo false]],w1⟩:Ent).ok c1 (h++[.cells [I 0,I 0,.nils,S em],.cells [Bo false]]) w1:=Ent.ok.refl 10 s1.hs;refine wp_seq (wp_region_list (xbz (Q:=qle ⟨10,c1,h++[.cells [I 0,I 0,.nils,S em],.cells [Bo false]],w1⟩ λx e=>match x with
  | .normal=>(∃v,Rg (.ret v) e.h)/\ji e.t 4=.ptr h.length 0/\ji e.t 5=.ptr (h.length+1) 0
  | .panic v=>Rg (.panic v) e.h/\ji e.t 4=.ptr h.length 0/\ji e.t 5=.ptr (h.length+1) 0
  |_=>False) ?_ ((qcq (E:=⟨10,c1,h++[.cells [I 0,I 0,.nils,S em],.cells [Bo false]],w1⟩) _ [] _ rfl ?_) c1 _ w1 s3 k3)))
 .rintro x a w2 ⟨x',e2,c2,hq,hx,s2,k2⟩;have ij:c1.le c2:=k2.ext;have jm:h.length+2<=e2.h.length:=by simpa using k2.len
  cases x' with
  |normal =>
   cases x<;>simp only[XR]at hx;obtain⟨⟨v,hv⟩,l4,l5⟩:=hq;obtain⟨⟨x4,g4,lx4⟩,⟨x5,g5⟩,hu2,hRR⟩:=hR _ _ hv jm;show Code.wp _ _ _ _ _;have n4:h.length<e2.h.length:=aa;have n5:h.length+1<e2.h.length:=aa;refine wp_seq (wp_region_list (xbz (Q:=qle ⟨10,c2,e2.h,w2⟩ λx e=>x=.normal/\e.h=(e2.h.set h.length (.cells [I 0,I 0,.nils,S em])).set (h.length+1) (.cells [Bo false])/\ji e.t 4=.ptr h.length 0/\ji e.t 5=.ptr (h.length+1) 0) ?_ ((qcq (E:=⟨10,c2,e2.h,w2⟩) _ [] _ rfl ?_) c2 _ w2 s2 (Ent.ok.refl 10 s2.hs))))
   .rintro x a w3 ⟨x',e3,c3,⟨rfl,h3,l4',l5'⟩,hx,s3',k3'⟩;cases x<;>simp only[XR]at hx;show Code.wp _ _ _ _ _;refine wp_ret ?_;have qto:c1.le c3:=ij.trans k3'.ext;show Leaves _ _ _ _ (a.defers++_) _ _;rw[s3'.defers,ff];refine leaves_cons (f:=206) (args:=#[tm[4],tm[5]]) ac (by simp[invoke]) ((xzz s3'.hs (hd4 c3 qto)).mono ?_);rintro en u' w4 ⟨⟨v4,rfl⟩,rfl,c4,s4,k4⟩;have sim4:Sim 10 c4 e3 a w4:=⟨s3'.defers,s3'.size,λi=>(s3'.tmps i).mono k4.ext,s4⟩
    have e3a:e3.h[h.length]?=some (.cells [I 0,I 0,.nils,S em]):=af;have e3b:e3.h[h.length+1]?=some (.cells [Bo false]):=af;have kk:(⟨10,c,h,w⟩:Ent).ok c4 e3.h w4:=((k1.trans k2).trans k3').trans k4;obtain⟨v5,h5,h6⟩:=fin c4 e3 a w4 (e2.h.take h.length) [I 0,I 0,.nils,S em] false sim4 kk l4' l5' e3a rfl (by simp[ko,AV.norm,lj,AV.under]) e3b (by
     rw[h3];exact xlf aa) az hu2 (by grind[ko,AV.norm,zs])
    exact⟨v5,h5,h6⟩
   .have hN:(⟨10,c2,e2.h,w2⟩:Ent).N=10:=rfl;have g5':(e2.h.set h.length (AObj.cells [I 0,I 0,.nils,S em]))[h.length+1]?=some (.cells [x5]):=af;simp-dsimp[go_sem,hN,l4,l5,g4,g5,lx4]
    try rw[show x4.drop 4=[]from cq aa]
    try simp-dsimp[go_sem,g5',l4,l5]
  |panic v =>
   obtain⟨hv,l4,l5⟩:=hq;obtain⟨⟨x4,g4,lx4⟩,⟨x5,g5⟩,hu2,hRR⟩:=hR _ _ hv jm;split at hRR
   .grind
   .rename_i st he;cases he;obtain⟨kn,nj,zh,hRR⟩:=hRR;cases x with
    |panic ch =>
     cases ch with
     |nil=>simp[XR]at hx
     |cons p l =>
      cases l with
      |cons=>simp[XR]at hx
      |nil =>
       obtain⟨u,rc,gx⟩:=p;cases rc<;>cases gx<;>simp only[XR]at hx;show Leaves _ _ _ _ (a.defers++_) _ _;rw[s2.defers,ff];refine leaves_cons (f:=206) (args:=#[tm[4],tm[5]]) ac (by simp[invoke]) ((jfk s2.hs (hd4 c2 ij) kn x4 g4 lx4 x5 g5 aa nj hx).mono ?_);rintro en u' w4 ⟨⟨v4,rfl⟩,rfl,c4,s4,k4⟩;have n4:h.length<e2.h.length:=aa;have n5:h.length+1<e2.h.length:=aa;have sim4:Sim 10 c4 ⟨e2.t,(e2.h.set h.length (.cells st)).set (h.length+1) (.cells [Bo true])⟩ a w4:=⟨s2.defers,s2.size,λi=>(s2.tmps i).mono k4.ext,s4⟩
       have kk:(⟨10,c,h,w⟩:Ent).ok c4 ((e2.h.set h.length (.cells st)).set (h.length+1) (.cells [Bo true])) w4:=(k1.trans k2).trans k4;have hnorm:ko ((e2.h.set h.length (.cells st)).set (h.length+1) (.cells [Bo true])) st=st:=hst' _ _ hv _;obtain⟨v5,h5,h6⟩:=fin c4 ⟨e2.t,(e2.h.set h.length (.cells st)).set (h.length+1) (.cells [Bo true])⟩ a w4 (e2.h.take h.length) st true sim4 kk l4 l5 (by simp[n4]) kn af (by simp[n5]) (xlf aa) az hu2 af;exact⟨v5,h5,h6⟩
    |_=>simp[XR]at hx
   .grind
  |_=>exact hq.elim
 .have hN:(⟨10,c1,h++[.cells [I 0,I 0,.nils,S em],.cells [Bo false]],w1⟩:Ent).N=10:=rfl;simp-dsimp[go_sem,hN];refine iy hg λr h' hr=>?_;cases r<;>simp[go_sem,hr];exact⟨_,hr⟩
end Go.Proofs.YtolejdhnnchfpaaGreatDoor
set_option maxRecDepth 4000
namespace Go.Proofs.YtolejdhnnchfpaaGreatDoor
open Go Go.Abs Go.Cw Go.Shelf Go.Proofs.Tryz
def xp4:Ren:=⟨fun
 | 129=>121| 173=>329| 246=>351| 283=>361| 284=>362| 285=>363| 286=>364
 | 317=>369| 318=>370| 319=>371| 320=>372| 337=>374| 338=>375|x=>x,
 λ| 0=>0| 2=>2| 3=>3| 4=>4| 5=>5| 9=>9| 20=>20| 37=>365| 46=>138| 51=>183| 53=>185| 171=>373| 173=>375| 212=>380| 213=>381| 232=>383| 233=>384|x=>x,
 λ| 17=>1| 18=>2| 19=>3|x=>x⟩
theorem jju:Lays.n173 prog xp4:=by
 constructor<;>first|exact λ_=>by kernel_rfl|kernel_rfl
theorem xhl:LaysM.n173 prog xp4:={ jju with i0:=by kernel_rfl,i2:=by kernel_rfl,i3:=by kernel_rfl,i4:=by kernel_rfl,i5:=by kernel_rfl,i9:=by kernel_rfl,i20:=by kernel_rfl,i37:=by kernel_rfl,i46:=by kernel_rfl,i51:=by kernel_rfl,i53:=by kernel_rfl,i171:=by kernel_rfl,i173:=by kernel_rfl,i212:=by kernel_rfl,i232:=by kernel_rfl,i233:=by kernel_rfl,m17:=by kernel_rfl,m18:=by kernel_rfl,m19:=by kernel_rfl }
def xdv:Array Value:=(Lib.pow10Tab.map λz=>Value.int .u64 z).toArray
def rn(T:TypeId)(x:Nat×Nat):AObj:=.raw 1 (λ_=>.cells xdv T x) []
def ku(n:Int):ig:=⟨(Lib.itoa n).toArray⟩
theorem xzr{c:Ctx}{h:g9}{w:World}(hs:HSim c h w)(k:Nat)(os:Array Obj):HSim c h (Sort.grow (w.drewN k) os)/\(⟨0,c,h,w⟩:Ent).ok c h (Sort.grow (w.drewN k) os):=by
 have hw:∀b,b<w.heap.size->(Sort.grow (w.drewN k) os).heap[b]?=w.heap[b]?:=λb hb=>by
  show(w.heap++os)[b]?=_;rw[qj0 hb]
 refine⟨hs.ext hw (.refl c) (λ_ _=>rfl) (λ_ _ _ h=>.inl h) hs.dom,?_⟩;exact(Ent.ok.refl 0 hs).ext' hs hw (.refl c) (λ_=>rfl) rfl rfl rfl ac (λ_ _ _ h=>.inl h)
theorem jjd(n:Int)(hn:i64 n)(h:g9)(g:Nat){T:TypeId}{x:Nat×Nat}(hg:h[g]?=some (rn T x))(jx:(ku n).size<=68719476736) :
  ACalls prog 329 [I n,I 10] h λr h'=>r=.ret (S (ku n))/\h'=h:=by
 refine⟨⟨_,xhl.f173,rfl,rfl⟩,λc w vs hs ha=>?_⟩;obtain⟨hb,us,hv,_⟩:=hs.obj _ _ hg
 have htab:Lib.TabIs prog w "internal/strconv.uint64pow10" .u64 Lib.pow10Tab:=by
  unfold Lib.TabIs World.var?;rw[xhl.m17];simp only[fp];show(match w.heap[1]? with|some (.cells cs _ _)=>some cs|_=>none)=_;rw[hv];rfl
 have he:vs = #[.int .i64 n,.int .i64 10]:=xpt (l:=[.int .i64 n,.int .i64 10]) ha;rw[he];refine(Any.strconv_FormatInt_10 xhl n hn.1 hn.2 w htab).mono ?_;rintro e w' ⟨rfl,k,os,rfl⟩;obtain⟨g1,g2⟩:=xzr hs k os;exact⟨_,h,c,⟨rfl,rfl⟩,.val _ (by grind[qkt]),g1,g2⟩
theorem jkd(n:Int)(hn:i64 n)(h:g9)(g:Nat){T:TypeId}{x:Nat×Nat}(hg:h[g]?=some (rn T x)) :
  ACalls prog 300 [I n] h λr h'=>r=.ret (S (ku n))/\h'=h:=by
 have jx:(ku n).size<=68719476736:=by
  have:=Lib.itoa_length_le n hn.1 hn.2;show(Lib.itoa n).length<=_;omega
 refine mh func300 ntmps300 rfl ae rfl λE hN hh hu hb iq ju=>?_;simp-dsimp[go_sem,hN];refine iy (jjd n hn h g hg jx) ?_;rintro r h' ⟨rfl,rfl⟩;simp-dsimp[go_sem,hN];exact⟨_,.refl _,_,rfl,hwk.refl _,cn _,hu,rfl,rfl⟩
end Go.Proofs.YtolejdhnnchfpaaGreatDoor
set_option maxHeartbeats 2000000
namespace Go.Proofs.YtolejdhnnchfpaaGreatDoor
open Go Go.Abs Go.Cw Go.Proofs.Tryz
section
attribute [local go_sem] mC
variable {C:Cfg} {tT:TypeId} {tx:Nat×Nat} {g m v o io ir ip:Nat} {K:MQ->g9} {n0:Nat}
abbrev MHs(C:Cfg)(tT:TypeId)(tx:Nat×Nat)(g m v o io ir ip:Nat)(K:MQ->g9)(n0:Nat):Prop:=MH C (rn tT tx) 57 9 g m v o io ir ip K n0
theorem xtb(Y:MHs C tT tx g m v o io ir ip K n0)(s:MS)(kn:s.steps<=100000) :
  ACalls prog 207 [.ptr m 0] (K s.q) λr h'=>r=od (wv s).1/\h'=K (wv s).2.q:=by
 refine mh func207 ntmps207 rfl ae rfl λE hN hh hu hb iq ju=>?_;have hw:IntKind.i64.wrap ((s.steps:Int)+1)=(s.steps:Int)+1:=qed aa aa;simp-dsimp[go_sem,hN,Y.lm,hw,Y.smx];refine ii ?_ ?_<;>intro h0<;>simp at h0
 .simp-dsimp[go_sem,hN];refine iy (qbi 1008 _) ?_;rintro r h' ⟨rfl,rfl⟩;simp-dsimp[go_sem,hN];rw[wv,if_pos aa];exact⟨_,.refl _,K (wv s).2.q,ag,ah,ax,Y.und' _,au,aj⟩
 .simp-dsimp[go_sem,hN];rw[wv,if_neg aa];exact⟨_,.refl _,K (wv s).2.q,ag,ah,ax,Y.und' _,au,aj⟩
theorem xyb(Y:MHs C tT tx g m v o io ir ip K n0)(s:MS)(x:V)(hl:s.out.length<=100) :
  ACalls prog 233 [.ptr m 0,.agg x.c] (K s.q) λr h'=>r=od (yx x s).1/\h'=K (yx x s).2.q:=by
 refine mh func233 ntmps233 rfl ae rfl λE hN hh hu hb iq ju=>?_;simp-dsimp[go_sem,hN,Y.lm',Y.lio'];refine ii ?_ ?_<;>intro h0<;>simp at h0
 .simp-dsimp[go_sem,hN];refine iy (qbi 1007 _) ?_;rintro r h' ⟨rfl,rfl⟩;simp-dsimp[go_sem,hN];rw[yx,if_pos aa];exact⟨_,.refl _,K s.q,ag,ah,ax,Y.und' _,au,aj⟩
 simp-dsimp[go_sem,hN];refine qer 10 9 [0] mixed ae ?_;simp-dsimp[go_sem,hN,Y.lm',Y.lio',Y.len,Y.loc,Y.sioA,Y.smx'];refine⟨aa,?_⟩;rw[yx,if_neg aa];exact⟨_,.refl _,K ⟨s.vars,s.own,s.out++[x],s.reads,s.puts,s.out.length+1,s.reads.length,s.puts.length,s.steps⟩,ag,ah,ax,Y.und' _,au,aj⟩
theorem xyn(Y:MHs C tT tx g m v o io ir ip K n0)(s:MS)(key:ig)(ha:kg s.reads)(hl:s.reads.length+1<=68719476736) :
  ACalls prog 301 [.ptr m 0,S key] (K s.q) λr h'=>r=om (um C key s).1/\h'=K (um C key s).2.q:=by
 refine mh func301 ntmps301 rfl ae rfl λE hN hh hu hb iq ju=>?_;simp-dsimp[go_sem,hN];refine iv (qd7 key) ?_;simp-dsimp[go_sem,hN];refine ii ?_ ?_<;>intro h0<;>simp at h0
 .simp-dsimp[go_sem,hN];refine iy (qbi 1004 _) ?_;rintro r h' ⟨rfl,rfl⟩;simp-dsimp[go_sem,hN];rw[um,if_pos h0];exact⟨_,.refl _,K s.q,ag,ah,ax,Y.und' _,au,aj⟩
 rw[um,if_neg cj];rcases hk:kz s.own key with _|w
 rotate_left
 .simp-dsimp[go_sem,hN,Y.lm',Y.lo',hk];exact⟨_,.refl _,K s.q,ag,ah,ax,Y.und' _,au,aj⟩
 simp-dsimp[go_sem,hN,Y.lm',Y.lo',hk];refine kq (xey C.rd key) ac ?_;simp-dsimp[go_sem,hN]
 repeat refine⟨af,?_⟩
 refine ii ?_ ?_<;>intro h1<;>simp at h1
 .simp-dsimp[go_sem,hN];refine iy (xo5 key _) ?_;rintro r h' ⟨rfl,rfl⟩;simp-dsimp[go_sem,hN];simp only[h1.1,h1.2,and_self,if_true];exact⟨_,.refl _,K s.q,ag,ah,ax,Y.und' _,au,aj⟩
 have mz:¬(C.all=false/\l8 C.rd key=false):=af;simp only[mz,if_false];simp-dsimp[go_sem,hN,Y.lm',Y.lir'];refine iy (xue _ _ s.reads (Y.lir' s.q _) aa key ha) ?_;rintro r h' ⟨rfl,rfl⟩;simp-dsimp[go_sem,hN,Y.sir',Y.lm',Y.smx',Y.len,Y.loc,Y.sloc,Y.loc1,Y.sloc1];refine iv (xzo C.state key) ?_;simp-dsimp[go_sem,hN,Y.sir',Y.lm',Y.smx',Y.len,Y.loc,Y.sloc,Y.loc1,Y.sloc1];exact⟨_,.refl _,K (MS.q { s with reads:=yv s.reads key }),ag,ah,ax,Y.und' _,au,aj⟩
theorem xlq(Y:MHs C tT tx g m v o io ir ip K n0)(s:MS)(key:ig)(x:V)(ha:kg s.puts)(hl:s.puts.length+1<=68719476736) :
  ACalls prog 231 [.ptr m 0,S key,.agg x.c] (K s.q) λr h'=>r=od (tv C key x s).1/\h'=K (tv C key x s).2.q:=by
 refine mh func231 ntmps231 rfl ae rfl λE hN hh hu hb iq ju=>?_;simp-dsimp[go_sem,hN];refine iv (qd7 key) ?_;simp-dsimp[go_sem,hN];refine ii ?_ ?_<;>intro h0<;>simp at h0
 .simp-dsimp[go_sem,hN];refine iy (qbi 1004 _) ?_;rintro r h' ⟨rfl,rfl⟩;simp-dsimp[go_sem,hN];rw[tv,if_pos h0];exact⟨_,.refl _,K s.q,ag,ah,ax,Y.und' _,au,aj⟩
 rw[tv,if_neg cj];simp-dsimp[go_sem,hN,Y.lm'];refine kq (xey C.wr key) ac ?_;simp-dsimp[go_sem,hN]
 repeat refine⟨af,?_⟩
 refine ii ?_ ?_<;>intro h1<;>simp at h1
 .simp-dsimp[go_sem,hN];refine iy (xo5 key _) ?_;rintro r h' ⟨rfl,rfl⟩;simp-dsimp[go_sem,hN];simp only[h1.1,h1.2,and_self,if_true];exact⟨_,.refl _,K s.q,ag,ah,ax,Y.und' _,au,aj⟩
 have mz:¬(C.all=false/\l8 C.wr key=false):=af;simp only[mz,if_false];simp-dsimp[go_sem,hN,Y.lm',Y.lip'];refine iy (xue _ _ s.puts (Y.lip' s.q _) aa key ha) ?_;rintro r h' ⟨rfl,rfl⟩;simp-dsimp[go_sem,hN,Y.sip',Y.lm',Y.smx'];refine jt 6 mixed ae ae ?_;simp-dsimp[go_sem,hN,Y.lm',Y.lo',Y.len,Y.loc,Y.so'];exact⟨_,.refl _,K (MS.q { s with puts:=yv s.puts key,own:=lx s.own key x }),ag,ah,ax,Y.und' _,au,aj⟩
end
end Go.Proofs.YtolejdhnnchfpaaGreatDoor
set_option maxHeartbeats 4000000
namespace Go.Proofs.YtolejdhnnchfpaaGreatDoor
open Go Go.Abs Go.Cw Go.Proofs.Tryz
section
attribute [local go_sem] mC
variable {C:Cfg} {tT:TypeId} {tx:Nat×Nat} {g m v o io ir ip:Nat} {K:MQ->g9} {n0:Nat}
theorem jes(Y:MHs C tT tx g m v o io ir ip K n0)(hF:C.fmt=ku)(s:MS)(op:Int)(a:V)(ha:kg s.reads)(hl:s.reads.length+1<=68719476736)(hr:oj a) :
  ACalls prog 269 [.ptr m 0,I op,.agg a.c] (K s.q) λr h'=>r=om (unS C op a s).1/\h'=K (unS C op a s).2.q:=by
 refine mh func269 ntmps269 rfl ae rfl λE hN hh hu hb iq ju=>?_;simp-dsimp[go_sem,hN,Y.len];refine ii ?_ ?_<;>intro h0<;>simp at h0
 .rw[unS,if_pos h0];simp-dsimp[go_sem,hN,Y.loc,Y.len];refine iy (xh (decide (a.k=1)) _) ?_;rintro r h' ⟨⟨hm,rfl⟩|⟨hm,rfl⟩,rfl⟩<;>simp at hm
  .simp-dsimp[go_sem,hN,Y.loc,Y.len];refine iv (xfd a.n) ?_;simp-dsimp[go_sem,hN,Y.loc,Y.len];refine iy (qc7 (qql a.n) _) ?_;rintro r h' ⟨rfl,rfl⟩;rw[if_pos hm];cases ve (qql a.n)<;>simp-dsimp[go_sem,hN,om,Y.loc1,Y.sloc1,Y.len]<;>exact⟨_,.refl _,K s.q,ag,ah,ax,Y.und' _,au,aj⟩
  .simp-dsimp[go_sem,hN];rw[if_neg hm];exact⟨_,.refl _,K s.q,ag,ah,ax,Y.und' _,au,aj⟩
 simp-dsimp[go_sem,hN,Y.len];rw[unS,if_neg h0];refine ii ?_ ?_<;>intro h1<;>simp at h1
 .rw[if_pos h1];simp-dsimp[go_sem,hN,Y.loc,Y.len];refine iy (xh (decide (a.k=3)) _) ?_;rintro r h' ⟨⟨hm,rfl⟩|⟨hm,rfl⟩,rfl⟩<;>simp at hm
  .simp-dsimp[go_sem,hN,Y.loc,Y.len];refine iv (qbs (decide (a.n=0))) ?_;simp-dsimp[go_sem,hN,Y.loc1,Y.sloc1,Y.len];rw[if_pos hm];exact⟨_,.refl _,K s.q,ag,ah,ax,Y.und' _,au,aj⟩
  .simp-dsimp[go_sem,hN];rw[if_neg hm];exact⟨_,.refl _,K s.q,ag,ah,ax,Y.und' _,au,aj⟩
 simp-dsimp[go_sem,hN,Y.len];rw[if_neg h1];refine ii ?_ ?_<;>intro h2<;>simp at h2
 .rw[if_pos h2];simp-dsimp[go_sem,hN,Y.loc,Y.len];refine iy (xh (decide (a.k=1)) _) ?_;rintro r h' ⟨⟨hm,rfl⟩|⟨hm,rfl⟩,rfl⟩<;>simp at hm
  .simp-dsimp[go_sem,hN,Y.loc,Y.len];refine iy (jkd a.n hr.1 _ g (Y.lg' _ _)) ?_;rintro r h' ⟨rfl,rfl⟩;simp-dsimp[go_sem,hN];refine iy (xhc _ _) ?_;rintro r h' ⟨rfl,rfl⟩;rw[if_pos hm,hF];cases qmv (ku a.n)<;>simp-dsimp[go_sem,hN,om,Y.loc1,Y.sloc1,Y.len]<;>exact⟨_,.refl _,K s.q,ag,ah,ax,Y.und' _,au,aj⟩
  .simp-dsimp[go_sem,hN];rw[if_neg hm];exact⟨_,.refl _,K s.q,ag,ah,ax,Y.und' _,au,aj⟩
 simp-dsimp[go_sem,hN,Y.len];rw[if_neg h2];refine ii ?_ ?_<;>intro h3<;>simp at h3
 .rw[if_pos h3];simp-dsimp[go_sem,hN,Y.loc,Y.len];refine iy (xh (decide (a.k=2)) _) ?_;rintro r h' ⟨⟨hm,rfl⟩|⟨hm,rfl⟩,rfl⟩<;>simp at hm
  .simp-dsimp[go_sem,hN,Y.loc,Y.len];refine iv (qdx (a.s.size:Int)) ?_;simp-dsimp[go_sem,hN,Y.loc1,Y.sloc1,Y.len];rw[if_pos hm];exact⟨_,.refl _,K s.q,ag,ah,ax,Y.und' _,au,aj⟩
  .simp-dsimp[go_sem,hN];rw[if_neg hm];exact⟨_,.refl _,K s.q,ag,ah,ax,Y.und' _,au,aj⟩
 simp-dsimp[go_sem,hN,Y.loc,Y.len];rw[if_neg h3];refine iy (xh (decide (a.k=2)) _) ?_;rintro r h' ⟨⟨hm,rfl⟩|⟨hm,rfl⟩,rfl⟩<;>simp at hm
 rotate_left
 .simp-dsimp[go_sem,hN];rw[if_neg hm];exact⟨_,.refl _,K s.q,ag,ah,ax,Y.und' _,au,aj⟩
 rw[if_neg aa];simp-dsimp[go_sem,hN,Y.loc,Y.len];refine iy (xyn (Y.ext [_,_] ay) s a.s ha hl) ?_;rintro r h' ⟨rfl,rfl⟩;rcases um C a.s s with⟨z|w,s'⟩
 .simp-dsimp[go_sem,hN,om];exact⟨_,.refl _,K s'.q,ag,ah,ax,Y.und' _,au,aj⟩
 simp-dsimp[go_sem,hN,om,Y.loc,Y.loc1,Y.len];simp only[qwk];refine ii ?_ ?_<;>intro h4<;>simp at h4
 .simp-dsimp[go_sem,hN,Y.loc2,Y.len];refine iv (qbs (!decide (w.k=0))) ?_;simp-dsimp[go_sem,hN,Y.loc1,Y.sloc1,Y.len];rw[if_pos h4];exact⟨_,.refl _,K s'.q,ag,ah,ax,Y.und' _,au,aj⟩
 rw[if_neg h4];simp-dsimp[go_sem,hN,Y.loc2,Y.len];refine ii ?_ ?_<;>intro h5<;>simp at h5
 .simp-dsimp[go_sem,hN];refine iv (qdx 0) ?_;simp-dsimp[go_sem,hN,Y.loc1,Y.sloc1,Y.len];rw[if_pos h5];exact⟨_,.refl _,K s'.q,ag,ah,ax,Y.und' _,au,aj⟩
 rw[if_neg aa];simp-dsimp[go_sem,hN,Y.loc2,Y.len];refine ii ?_ ?_<;>intro h6<;>simp at h6
 .simp-dsimp[go_sem,hN];refine iy (xhc em _) ?_;rintro r h' ⟨rfl,rfl⟩;rw[if_pos h6];cases qmv em<;>simp-dsimp[go_sem,hN,om,Y.loc1,Y.sloc1,Y.len]<;>exact⟨_,.refl _,K s'.q,ag,ah,ax,Y.und' _,au,aj⟩
 rw[if_neg aa];simp-dsimp[go_sem,hN,Y.loc2,Y.len];refine ii ?_ ?_<;>intro h7<;>simp at h7
 .simp-dsimp[go_sem,hN];refine ii (λ_=>?_) (λhx=>by simp[h7]at hx);simp-dsimp[go_sem,hN];refine iy (qbi 1003 _) ?_;rintro r h' ⟨rfl,rfl⟩;simp-dsimp[go_sem,hN];rw[if_pos (.inl h7)];exact⟨_,.refl _,K s'.q,ag,ah,ax,Y.und' _,au,aj⟩
 simp-dsimp[go_sem,hN,Y.loc2,Y.len];refine ii ?_ ?_<;>intro h8<;>simp at h8
 .simp-dsimp[go_sem,hN];refine iy (qbi 1003 _) ?_;rintro r h' ⟨rfl,rfl⟩;simp-dsimp[go_sem,hN];rw[if_pos (.inr h8)];exact⟨_,.refl _,K s'.q,ag,ah,ax,Y.und' _,au,aj⟩
 simp-dsimp[go_sem,hN,Y.loc2,Y.loc1,Y.sloc1,Y.len];rw[if_neg (λk=>k.elim (λk=>k.2 (h7 k.1)) (λk=>k.2 (h8 k.1)))];exact⟨_,.refl _,K s'.q,ag,ah,ax,Y.und' _,au,aj⟩
end
section
attribute [local go_sem] mC
variable {C:Cfg} {tT:TypeId} {tx:Nat×Nat} {g m v o io ir ip:Nat}
theorem qb7(hF:C.fmt=ku)(hC:u5 C){K:MQ->g9}{n0:Nat}(Y:MHs C tT tx g m v o io ir ip K n0)(s:MS)(e:Ex)(hX:vd e)(hM:qoo s)(ha:kg s.reads)(hl:s.reads.length+nodes e<=1000000000) :
  ACalls prog 229 [.ptr m 0,.agg e.x] (K s.q) λr h'=>r=om (mg C e s).1/\h'=K (mg C e s).2.q:=by
 refine mh func229 ntmps229 rfl ae rfl λE hN hh hu hb iq ju=>?_;have hX':=(qw1 _).1 hX;simp[go_sem]at hb;rw[xzp];simp-dsimp[go_sem,hN,Y.len,Y.loc];refine ii ?_ ?_<;>intro h1<;>simp at h1
 .simp-dsimp[go_sem,hN,Y.len,Y.loc];refine iv (qdx e.n) ?_;simp-dsimp[go_sem,hN,Y.len,Y.loc1,Y.sloc1];rw[if_pos h1];exact⟨_,.refl _,K s.q,ag,ah,ax,Y.und' _,au,aj⟩
 rw[if_neg h1];simp-dsimp[go_sem,hN,Y.len,Y.loc];refine ii ?_ ?_<;>intro h2<;>simp at h2
 .simp-dsimp[go_sem,hN,Y.len,Y.loc,Y.loc1,Y.sloc1];rw[if_pos h2];exact⟨_,.refl _,K s.q,ag,ah,ax,Y.und' _,au,aj⟩
 rw[if_neg h2];simp-dsimp[go_sem,hN,Y.len,Y.loc];refine ii ?_ ?_<;>intro h3<;>simp at h3
 .rw[if_pos h3];simp-dsimp[go_sem,hN];refine xeb 12 mixed ae ?_;rcases hk:kz s.vars e.s with _|w
  .simp-dsimp[go_sem,hN,Y.len,Y.loc,Y.loc1,Y.loc2,Y.sloc1,Y.sloc2,Y.lm',Y.lv',hk];refine⟨qhn,?_⟩;refine iy (xh false _) ?_;rintro r h' ⟨⟨hm,rfl⟩|⟨hm,rfl⟩,rfl⟩<;>simp at hm;simp-dsimp[go_sem,hN];exact⟨_,.refl _,K s.q,ag,ah,ax,Y.und' _,au,aj⟩
  .simp-dsimp[go_sem,hN,Y.len,Y.loc,Y.loc1,Y.loc2,Y.sloc1,Y.sloc2,Y.lm',Y.lv',hk];refine⟨qhn,?_⟩;refine iy (xh true _) ?_;rintro r h' ⟨⟨hm,rfl⟩|⟨hm,rfl⟩,rfl⟩<;>simp at hm;simp-dsimp[go_sem,hN,Y.len,Y.loc,Y.loc1,Y.loc2,Y.sloc1,Y.sloc2];exact⟨_,.refl _,K s.q,ag,ah,ax,Y.und' _,au,aj⟩
 rw[if_neg h3];simp-dsimp[go_sem,hN,Y.len,Y.loc];have hn:=xih e;refine td (α:=List V×MS) e.args.length (λn a=>a.1.length=n/\(∀v∈a.1,oj v)/\qoo a.2/\kg a.2.reads/\a.2.reads.length+qtk (e.args.drop n)+1<=1000000000 /\
   pa C e.args s=match pa C (e.args.drop n) a.2 with
    |(.error z,m')=>(.error z,m')
    |(.ok r,m')=>(.ok (a.1++r),m'))
  (λn a=>⟨[(0,.ptr m 0),(3,.ptr n0 0),(4,.ptr (n0+1) 0),(7,.own (n0+2) a.1.length),(38,.slice (e.args.map Ex.c)),(39,I e.args.length),(40,I n)],K a.2.q++[.cells e.x,.cells [I 0,I 0,S em],.arr 57 3 (a.1.map V.c)]⟩)
  ([],s) ⟨rfl,ac,hM,ha,az,?_⟩ ((qq1 E _ 7 57 3 ag).trans ?_) ?_
 .grind
 .simp[Y.len];have:=Y.hm;exact(Wk.mk af ac qff qfc)
 rintro n ⟨iw,s'⟩ hn' ⟨hal,hav,hM',ha',po,hI⟩;dsimp only at hal hav hM' ha' po hI;have hmn:=Y.hm;have hw:=jj hn' hb.2.1;simp-dsimp[go_sem,hN];refine ii ?_ ?_<;>intro hc<;>simp at hc
 .rw[jv hc]at hI po;rw[xj5]at po;rw[pa]at hI;have il:SizeOf.sizeOf e.args[n]<SizeOf.sizeOf e:=Ex.arg_lt (dk hc);simp-dsimp[go_sem,hN,hc];refine iy (qb7 hF hC (Y.ext [_,_,_,_] ay) s' e.args[n] (hX'.2 _ (dk hc)) hM' ha' aa) ?_;rintro r h' ⟨rfl,rfl⟩;have kp:=qqp hC e.args[n] s' (hX'.2 _ (dk hc)) hM' ha';rcases hE:mg C e.args[n] s' with⟨z|w,s2⟩
  .rw[hE]at hI;simp only at hI;simp-dsimp[go_sem,hN,om];rw[hI];exact⟨_,.refl _,K s2.q,ag,ah,ax,Y.und' _,au,aj⟩
  .rw[hE]at hI kp;simp only at hI kp;simp-dsimp[go_sem,hN,om,Y.len,Y.loc,Y.loc1,Y.loc2,Y.loc3,Y.sloc2,hw];refine⟨aa,hc,iw++[w],s2,⟨by simp[hal],?_,kp.1.rng hM',kp.1.asc,by have:=kp.1.len;omega,?_⟩,(Wk.mk qge ag qff qfc)⟩
   .grind
   .grind
 .rw[cq aa,pa]at hI;simp only[ej]at hI;rw[hI];have hln:iw.length=e.args.length:=aa;simp-dsimp[go_sem,hN,Y.len,Y.loc2];refine ii ?_ ?_<;>intro h4<;>simp at h4
  .obtain⟨a,rfl⟩:∃a,iw=[a]:=by
    match iw,h4 with
    | [a],_=>exact⟨a,rfl⟩
    | [],h4=>simp at h4
    |_::_::_,h4=>simp at h4;omega
   simp-dsimp[go_sem,hN];refine jt 6 mixed ae ae ?_;simp-dsimp[go_sem,hN,Y.len,Y.loc,Y.loc1,Y.loc2,Y.sloc1]
   trace_state
   refine iy (jes (Y.ext [_,_,_] ay) hF s' e.op a ha' aa (hav a ac)) ?_;rintro r h' ⟨rfl,rfl⟩;simp only[vz];rcases unS C e.op a s' with⟨z|w,s2⟩<;>simp-dsimp[go_sem,hN,om,Y.len,Y.loc,Y.loc1,Y.loc2,Y.sloc1]<;>exact⟨_,.refl _,K s2.q,ag,ah,ax,Y.und' _,au,aj⟩
  simp-dsimp[go_sem,hN];refine ii ?_ ?_<;>intro h5<;>simp at h5
  .obtain⟨a,b,rfl⟩:∃a b,iw=[a,b]:=by
    match iw,h5 with
    | [a,b],_=>exact⟨a,b,rfl⟩
    | [],h5=>simp at h5
    | [_],h5=>simp at h5
    |_::_::_::_,h5=>simp at h5;omega
   have wt:=(hav a ac).2;have hrb:=(hav b ac).2;simp-dsimp[go_sem,hN];refine jt 8 mixed ae ae ?_;simp-dsimp[go_sem,hN,Y.len,Y.loc,Y.loc1,Y.loc2,Y.sloc1]
   trace_state
   refine iy (xwn e.op a b _ aa) ?_;rintro r h' ⟨rfl,rfl⟩;simp only[vz];cases ug e.op a b<;>simp-dsimp[go_sem,hN,om,Y.len,Y.loc,Y.loc1,Y.loc2,Y.sloc1]<;>exact⟨_,.refl _,K s'.q,ag,ah,ax,Y.und' _,au,aj⟩
  simp-dsimp[go_sem,hN];refine iy (qbi 1009 _) ?_;rintro r h' ⟨rfl,rfl⟩;simp-dsimp[go_sem,hN];have ho:vz C e.op iw s'=(.error (ab 1009),s'):=by
   match iw,h4,h5 with
   | [],_,_=>rfl
   | [_],h4,_=>simp at h4
   | [_,_],_,h5=>simp at h5
   |_::_::_::_,_,_=>rfl
  rw[ho];exact⟨_,.refl _,K s'.q,ag,ah,ax,Y.und' _,au,aj⟩
termination_by SizeOf.sizeOf e
end
section
attribute [local go_sem] mC
variable {C:Cfg} {tT:TypeId} {tx:Nat×Nat} {g m v o io ir ip:Nat}
def jje(C:Cfg)(tT:TypeId)(tx:Nat×Nat)(g m v o io ir ip:Nat)(l:List St):Prop :=
 ∀{K:MQ->g9} {n0:Nat} (_:MHs C tT tx g m v o io ir ip K n0) (s:MS),Inv 0 0 s->ACalls prog 182 [.ptr m 0,.slice (l.map St.c)] (K s.q) λr h'=>r=od (mc C l s).1/\h'=K (mc C l s).2.q
theorem jfm(hF:C.fmt=ku)(hC:u5 C){K:MQ->g9}{n0:Nat}(Y:MHs C tT tx g m v o io ir ip K n0)(t:St)(lf:t.op=6)(hG:goS t)(s:MS)(hI:Inv 8192 1 s)(r8:jje C tT tx g m v o io ir ip t.body) :
  ACalls prog 232 [.ptr m 0,.agg t.x] (K s.q) λr h'=>r=od (r7 C t s).1/\h'=K (r7 C t s).2.q:=by
 refine mh func232 ntmps232 rfl ae rfl λE hN hh hu hb iq ju=>?_;obtain⟨op,name,mx,a,b,body,els⟩:=t;have hG':=(qye _).1 hG;simp only[St.op,St.a,St.b,St.body,St.els]at hG' lf;obtain⟨hA,hB,vx,qpn⟩:=hG';subst lf;have wt:=(hA aa)
 have hrb:=(hB aa)
 have hmn:=Y.hm;rw[r7];simp only[show ¬((6:Int)=1\/(6:Int)=2)by omega,show ¬(6:Int)=3 by omega,show ¬(6:Int)=4 by omega,show ¬(6:Int)=5 by omega,if_false,if_true];have kn:=hI.st;have hrd:=hI.rd;simp-dsimp[go_sem,hN,Y.len,Y.loc];refine iy (qb7 hF hC (Y.ext [_] ay) s a wt.1 hI.rng hI.ar (by have:=wt.2;omega)) ?_;rintro r h' ⟨rfl,rfl⟩;have h1:=hI.eval hC (r:=4097) wt;rcases hE:mg C a s with⟨z|u,s1⟩
 .simp-dsimp[go_sem,hN,om,od];exact⟨_,.refl _,K s1.q,ag,ah,ax,Y.und' _,au,aj⟩
 rw[hE]at h1;simp only at h1;dsimp only;have hrd1:=h1.1.rd;have hst1:=h1.1.st;simp-dsimp[go_sem,hN,om,Y.len,Y.loc,Y.loc1];refine iy (qb7 hF hC (Y.ext [_,_] ay) s1 b hrb.1 h1.1.rng h1.1.ar (by have:=hrb.2;omega)) ?_;rintro r h' ⟨rfl,rfl⟩;have h2:=h1.1.eval hC (r:=2) hrb;rcases m9:mg C b s1 with⟨z|w,s2⟩
 .simp-dsimp[go_sem,hN,om,od];exact⟨_,.refl _,K s2.q,ag,ah,ax,Y.und' _,au,aj⟩
 rw[m9]at h2;simp only at h2;dsimp only;simp-dsimp[go_sem,hN,om,Y.len,Y.loc,Y.loc1,Y.loc2];refine iy (xh (decide (u.k=1)&&decide (w.k=1)) _) ?_;rintro r h' ⟨⟨hm,rfl⟩|⟨hm,rfl⟩,rfl⟩<;>simp at hm
 rotate_left
 .simp-dsimp[go_sem,hN,od];simp only[show ¬(u.k=1/\w.k=1)from λk=>hm k.1 k.2,if_false];exact⟨_,.refl _,K s2.q,ag,ah,ax,Y.und' _,au,aj⟩
 simp only[hm.1,hm.2,and_self,if_true];simp-dsimp[go_sem,hN,Y.len,Y.loc,Y.loc1,Y.loc2]
 repeat refine⟨af,?_⟩
 refine ii ?_ ?_<;>intro h0<;>simp at h0
 .have h0':qx5 u.n w.n mx:=h0;simp-dsimp[go_sem,hN];refine iy (qbi 1005 _) ?_;rintro r h' ⟨rfl,rfl⟩;simp-dsimp[go_sem,hN,od,h0'];exact⟨_,.refl _,K s2.q,ag,ah,ax,Y.und' _,au,aj⟩
 have h0':¬qx5 u.n w.n mx:=λk=>by have h3:=h0 k.1;have:=k.2;simp only[St.max]at h3;omega
 simp only[h0',if_false];simp-dsimp[go_sem,hN,Y.len,Y.loc,Y.loc1,Y.loc2];obtain⟨L0,hL0⟩:∃L0,L0=q8 (λy=>mc C body y) name w.n 16386 u.n s2:=⟨_,rfl⟩
 rw[<-hL0];refine qvb (α:=Nat×Int×MS) (λx=>Cw.Inv 0 0 x.2.2/\i64 x.2.1/\(16386:Int)<=x.2.2.steps+x.1/\L0=q8 (λy=>mc C body y) name w.n x.1 x.2.1 x.2.2)
  (λx=>⟨[(0,.ptr m 0),(3,.ptr n0 0),(5,.ptr (n0+2) 0),(6,I x.2.1)],K x.2.2.q++[.cells (St.mk 6 name mx a b body els).x,.cells [I 1,I u.n,S u.s],.cells [I 1,I w.n,S w.s]]⟩)
  (λx=>x.1) (16386,u.n,s2) ⟨h2.1.mono aa aa,(h1.2 _ rfl).1,by have:=h2.1.pt;simp only;omega,hL0⟩ (Wk.mk qge ac qff qfc) ?_
 rintro⟨f,i,s3⟩ ⟨hI3,hi,hf,hL⟩;dsimp only at hI3 hi hf hL;have hst3:=hI3.st;obtain⟨f,rfl⟩:∃f',f=f'+1:=⟨f - 1,aa⟩
 rw[q8]at hL;simp-dsimp[go_sem,hN,Y.len,Y.loc,Y.loc1,Y.loc2];refine ii ?_ ?_<;>intro hc<;>simp at hc
 rotate_left
 .rw[if_neg aa]at hL;rw[hL];simp-dsimp[go_sem,hN,od];exact⟨_,.refl _,K s3.q,ag,ah,ax,Y.und' _,au,aj⟩
 rw[if_pos hc]at hL;simp-dsimp[go_sem,hN];refine iy (xtb (Y.ext [_,_,_] ay) s3 aa) ?_;rintro r h' ⟨rfl,rfl⟩;rcases hT:wv s3 with⟨z|⟨⟩,s4⟩
 .rw[hT]at hL;simp only at hL;rw[hL];simp-dsimp[go_sem,hN,od];exact⟨_,.refl _,K s4.q,ag,ah,ax,Y.und' _,au,aj⟩
 rw[hT]at hL;simp only at hL;have hI4:=(hI3.tick hT).vars (qvg hi) name;simp-dsimp[go_sem,hN,od];refine jt 8 mixed ae ae ?_;simp-dsimp[go_sem,hN,Y.len,Y.loc,Y.loc1,Y.loc2,Y.lm',Y.lv',Y.sv',jgp];refine iy (r8 (Y.ext [_,_,_] ay) { s4 with vars:=lx s4.vars name (vI i) } (hI4.mono aa aa)) ?_;rintro r h' ⟨rfl,rfl⟩;rcases hB5:mc C body { s4 with vars:=lx s4.vars name (vI i) }with⟨z|⟨⟩,s5⟩
 .rw[hB5]at hL;simp only at hL;rw[hL];simp-dsimp[go_sem,hN,od,hB5,St.body];exact⟨_,.refl _,K s5.q,ag,ah,ax,Y.und' _,au,aj⟩
 rw[hB5]at hL;simp only at hL;simp-dsimp[go_sem,hN,od,hB5,St.body];have kr:=xb5 (C:=C) body { s4 with vars:=lx s4.vars name (vI i) };have nm:=xgn s3;rw[hB5]at kr;rw[hT]at nm;simp only at kr nm;exact⟨f,pi (i+1),s5,⟨qvo hC body _ _ _ vx (hI4.mono aa aa) hB5,qtl _,aa,hL⟩,aa,(Wk.mk qge ac qff qfc)⟩
end
end Go.Proofs.YtolejdhnnchfpaaGreatDoor
