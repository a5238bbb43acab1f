/- Part 39 of a proof. -/
import Derived.Shelf.Small.Strs
import Derived.Shelf.Strconv.Itoa4
import Derived.Lib.ItoaLen
import Derived.Test.YtolejdhnnchfpaaGreatDoorQ38
set_option linter.all false
set_option maxRecDepth 4000
namespace Go.Proofs.YtolejdhnnchfpaaGreatDoor
open Go Go.Abs Go.Cw Go.Proofs.Tryz
theorem xq5{l:Nat}{HF:Nat->g9}{HX:Nat->Ex->g9}{stop:Ex->Bool}{n0:Nat}(Y:YH prog l HF HX stop n0)(e:Ex)(k:Nat) :
  ACalls prog 295 [.agg e.x,.fn (.yield l) [] []] (HF k) λr h'=>r=.ret (Bo (scan stop (qqe e) k).2.isNone)/\h'=y3 HF HX (scan stop (qqe e) k):=by
 refine xc4 func295 rfl ae (by simp[ntmps295]) ?_;intro E hN hh hu hb iq ju;rw[ntmps295]at hN;simp[go_sem]at hb;have y0:∀(k:Nat) (x:AObj) (L:g9),(HF k++x::L)[n0]?=some x:=λk x L=>by
  rw[cx qfh,Y.len,fe];rfl
 have y1:∀(k:Nat) (z:Ex) (x:AObj) (L:g9),(HX k z++x::L)[n0]?=some x:=λk z x L=>by
  rw[cx (by rw[Y.lenX];omega),Y.lenX,fe];rfl
 refine xbj (qbq _ _ _ _ ?_);simp-dsimp[go_sem,hN,Y.len,y0];refine xbj (xbj (xo3 ae ?_));simp-dsimp[go_sem,hN,Y.len,y0];have qqj:∀(r:Nat×Option Ex),(y3 HF HX r).length=n0:=λr=>by
  unfold y3;split
  .exact Y.len _
  .exact Y.lenX _ _
 have hfu:∀(r:Nat×Option Ex),hUnder (y3 HF HX r).length (y3 HF HX r)=true:=λr=>by
  rw[qqj];unfold y3;split
  .exact Y.und _
  .exact Y.undX _ _
 refine(Y.y k e _).mono ?_;rintro r h' ⟨kn,hsf⟩;rw[jcu];cases hs:stop e with
 |true =>
  obtain⟨rfl,rfl⟩:=kn hs;simp-dsimp[go_sem,hN];refine xjw (jo _ _ _ ?_);simp-dsimp[go_sem,hN];refine⟨[],rfl,qjb,ac,?_⟩;simp-dsimp[go_sem,hN,qee];exact⟨_,.refl _,HX k e,rfl,ac,by simp[Y.len,Y.lenX],by rw[Y.lenX];exact Y.undX _ _,ac,by simp[y3]⟩
 |false =>
  obtain⟨rfl,rfl⟩:=hsf hs;simp-dsimp[go_sem,hN];refine xjw (jo _ _ _ ?_);simp-dsimp[go_sem,hN];refine xjw (jo _ _ _ ?_);simp-dsimp[go_sem,hN,Y.len,y0];refine td (α:=Nat) e.args.length (λn m=>scan stop (zy (e.args.drop n)) m=scan stop (zy e.args) (k+1)) (λn m=>⟨[(1,.fn (.yield l) [] []),(12,.slice (e.args.map Ex.c)),(13,I e.args.length),(14,I n)],HF m⟩) (k+1) ac (Wk.mk qge ac qgr ag) ?_;intro n m hn hI;have hw:=jj hn hb.2.1;simp-dsimp[go_sem,hN];refine ii ?_ ?_<;>intro hc<;>simp at hc
  .rw[jv hc,xr8]at hI;have il:SizeOf.sizeOf e.args[n]<SizeOf.sizeOf e:=Ex.arg_lt (dk hc);simp-dsimp[go_sem,hN,hc,Y.len,y0];refine iy (xq5 (Y.ext [.cells e.args[n].x] ag) e.args[n] m) ?_;rintro r h' ⟨rfl,rfl⟩;rcases hq:scan stop (qqe e.args[n]) m with⟨m',_|y⟩
   .rw[hq]at hI;simp-dsimp[go_sem,hN,hw,y3];exact⟨hc,_,hI,Wk.mk qge ac qgr ag⟩
   .rw[hq]at hI;simp only at hI;simp-dsimp[go_sem,hN,y3];refine⟨[],rfl,qjb,ac,?_⟩;rw[<-hI];simp-dsimp[go_sem,hN,qee,y3];exact⟨_,.refl _,HX m' y,rfl,ac,by simp[Y.len,Y.lenX],by rw[Y.lenX];exact Y.undX _ _,rfl,rfl⟩
  .rw[cq aa,zy,scan]at hI;simp-dsimp[go_sem,hN];refine⟨[],rfl,qjb,ac,?_⟩;rw[<-hI];simp-dsimp[go_sem,hN,qee,y3];exact⟨_,.refl _,HF m,rfl,ac,ax,qgr,rfl,rfl⟩
termination_by SizeOf.sizeOf e
theorem jh4{l:Nat}{HF:Nat->g9}{HX:Nat->Ex->g9}{stop:Ex->Bool}{n0:Nat}(Y:YH prog l HF HX stop n0)(e:Ex)(k i:Nat)(hi:(HF k)[i]?=some (.cells e.x)) :
  ACalls prog 294 [.fn (.yield l) [] [],.ptr i 0] (HF k) λr h'=>r=.ret (.tuple [])/\h'=y3 HF HX (scan stop (qqe e) k):=by
 refine mh func294 ntmps294 rfl ae rfl λE hN hh hu hb iq ju=>?_;simp-dsimp[go_sem,hN,hi];refine iy (xq5 Y e k) ?_;rintro r h' ⟨rfl,rfl⟩;simp-dsimp[go_sem,hN];refine⟨_,.refl _,y3 HF HX (scan stop (qqe e) k),rfl,hwk.refl _,?_,?_,rfl,rfl⟩
 .unfold y3;split<;>simp[Y.len,Y.lenX]
 .unfold y3;split
  .rw[Y.len];exact Y.und _
  .rw[Y.lenX];exact Y.undX _ _
theorem xw3:qm2 Value.nilFunc=.val .nilFunc:=rfl
theorem xyz(e:Ex)(h:g9):ACalls prog 263 [.agg e.x] h λr h'=>r=.ret (.fn (.func 294) [] [.ptr h.length 0])/\h'=h++[.cells e.x]:=by
 refine mh func263 ntmps263 rfl ae rfl λE hN hh hu hb iq ju=>?_;simp-dsimp[go_sem,hN,xw3];exact⟨_,.refl _,_,qez,hwk.refl _,ac,by rw[c7,tj hu];simp[go_sem],rfl,rfl⟩
theorem xwv(p:Proc)(h:g9):ACalls prog 225 [.agg p.c] h λr h'=>r=.ret (.tuple [I (qy6 p).1,I (IntKind.i64.wrap (qy6 p).2.1),Bo (qy6 p).2.2])/\h'=h:=by
 refine xc4 func225 rfl ae (by simp[ntmps225]) ?_;intro E hN hh hu hb iq ju;rw[ntmps225]at hN;simp[go_sem]at hb;refine qbq _ _ _ _ ?_;simp-dsimp[go_sem,hN];refine iv (xns p) ?_;simp-dsimp[go_sem,hN];refine ii ?_ ?_<;>intro h0<;>simp at h0
 .simp-dsimp[go_sem,hN];refine⟨[],rfl,qjb,ac,?_⟩;simp-dsimp[go_sem,hN,qee];rw[qy6,if_pos h0];exact⟨_,.refl _,h,ag,ag,ac,aq,rfl,rfl⟩
 rw[qy6,if_neg aa];have hxl:(uw p).length<=401:=by
  have:=qwf qyi qxu List.length (λs _ _=>by simp[qyi]) (λs _=>by simp[qxu]) p.body 1 (401,[]);simp only[ed]at this;unfold uw;omega
 simp-dsimp[go_sem,hN];refine iv (jeo p) ?_;simp-dsimp[go_sem,hN];obtain⟨T,hT⟩:∃T:AV->AV->AV->AV->g9,T=λa b d f=>h++[.cells p.c,.cells [a],.cells [b],.cells [d],.cells [f]]:=⟨_,rfl⟩
 have yf:∀a b d f,(T a b d f).length=h.length+5:=λa b d f=>by rw[hT];simp
 have g1:∀a b d f (Z:g9),(T a b d f++Z)[h.length+1]?=some (.cells [a]):=λa b d f Z=>by rw[hT];simp
 have g2:∀a b d f (Z:g9),(T a b d f++Z)[h.length+2]?=some (.cells [b]):=λa b d f Z=>by rw[hT];simp
 have g3:∀a b d f (Z:g9),(T a b d f++Z)[h.length+3]?=some (.cells [d]):=λa b d f Z=>by rw[hT];simp
 have g4:∀a b d f (Z:g9),(T a b d f++Z)[h.length+4]?=some (.cells [f]):=λa b d f Z=>by rw[hT];simp
 have s1:∀a b d f a' (Z:g9),(T a b d f++Z).set (h.length+1) (.cells [a'])=T a' b d f++Z:=λa b d f a' Z=>by rw[hT];simp
 have s2:∀a b d f a' (Z:g9),(T a b d f++Z).set (h.length+2) (.cells [a'])=T a a' d f++Z:=λa b d f a' Z=>by rw[hT];simp
 have s3:∀a b d f a' (Z:g9),(T a b d f++Z).set (h.length+3) (.cells [a'])=T a b a' f++Z:=λa b d f a' Z=>by rw[hT];simp
 have s4:∀a b d f a' (Z:g9),(T a b d f++Z).set (h.length+4) (.cells [a'])=T a b d a'++Z:=λa b d f a' Z=>by rw[hT];simp
 have hTu:∀(a b:Int) (d:Bool) (f:Int),hUnder (h.length+5) (T (I a) (I b) (Bo d) (I f))=true:=λa b d f=>by rw[hT,tj hu];simp[go_sem]
 obtain⟨B,hB⟩:∃B:Nat->g9,B=λ(k:Nat)=>T (I 0) (I 0) (Bo false) (I (IntKind.i64.wrap (k:Int))):=⟨_,rfl⟩
 have hBl:∀k,(B k).length=h.length+5:=λk=>by rw[hB,yf]
 have hBu:∀k,hUnder (h.length+5) (B k)=true:=λk=>by rw[hB,hT,tj hu];simp[go_sem]
 refine xjr (ι:=Nat×Nat×List (Option Nat)) (λi=>i.1<=(uw p).length/\scan (λe=>qvl e.op) (zy ((uw p).drop i.1)) i.2.1=scan (λe=>qvl e.op) (zy (uw p)) 0)
  (λi=>(dM i.2.2,⟨[(2,.ptr (h.length+1) 0),(3,.ptr (h.length+2) 0),(4,.ptr (h.length+3) 0),(5,.ptr (h.length+4) 0),(13,.slice ((uw p).map Ex.c)),(14,I (uw p).length),(15,I i.1)],B i.2.1++gM i.2.2⟩)) (λi=>(uw p).length - i.1) (0,0,[]) ⟨ac,ac⟩ rfl ?_ ?_
 .simp only[gM,fc,ej,hB,hT];exact(Wk.mk ai ag ca ag)
 rintro⟨n,k,ms⟩ ⟨hn,hI⟩;simp only at hn hI;have hw:=jj hn aa;refine qbq _ _ _ _ ?_;simp-dsimp[go_sem,hN];refine ii ?_ ?_<;>intro hc<;>simp at hc
 .rw[jv hc,xr8]at hI;simp-dsimp[go_sem,hN,hc];refine iy (xyz (uw p)[n] _) ?_;rintro r h' ⟨rfl,rfl⟩;simp-dsimp[go_sem,hN];have hBu':∀k L m,hUnder (h.length+5+m) L=true->hUnder (h.length+5+m) (B k++L)=true:=λk L m hL=>by
   rw[qx,uk aa (hBu k),hL];rfl
  have hgu:=xmg;obtain⟨G,hG⟩:∃G:g9,G=gM ms++[.cells (uw p)[n].x,.cells (uw p)[n].x]:=⟨_,rfl⟩
  have hGu:∀m,hUnder m G=true:=λm=>by
   rw[hG,qx,hgu];simp[go_sem]
  obtain⟨X,hX⟩:∃X:Nat->Ex->g9,X=λ(j:Nat) (x:Ex)=>T (I x.op) (I (IntKind.i64.wrap (j:Int))) (Bo true) (I (IntKind.i64.wrap (j:Int))):=⟨_,rfl⟩
  have hXl:∀j x,(X j x).length=h.length+5:=λj x=>by rw[hX,yf]
  have hXu:∀j x,hUnder (h.length+5) (X j x)=true:=λj x=>by rw[hX,hT,tj hu];simp[go_sem]
  refine jjh (e1:=⟨[(2,.ptr (h.length+1) 0),(3,.ptr (h.length+2) 0),(4,.ptr (h.length+3) 0),(5,.ptr (h.length+4) 0),(13,.slice ((uw p).map Ex.c)),(14,I (uw p).length),(15,I n),(20,.fn (.func 294) [] [.ptr (h.length+5+(gM ms).length+1) 0])],B k++G⟩) (Wk.mk af ca (by rw[c7,hBl];exact hBu' _ _ _ (hGu _)) (by rw[hG];simp[go_sem,hBl,Nat.add_assoc];try omega)) ?_;have hGl:G.length=(gM ms).length+2:=af;refine jcd (gf:=294) (caps:=[.ptr (h.length+5+(gM ms).length+1) 0]) rfl (λH=>rfl) (λj=>B j++G) (λj x=>X j x++G) (λe=>qvl e.op) (qqe (uw p)[n]) k (h.length+5+G.length) rfl
   (λj=>by rw[c7,hBl]) (λj x=>by rw[c7,hXl]) (λj=>hBu' _ _ _ (hGu _)) (λj x=>by rw[qx,uk aa (hXu j x),hGu];rfl) ?_ af ?_ ?_ ?_ ?_
  .rw[hN,hGl];simp[slots,List.range,List.range.loop,go_sem];omega
  .intro l L HX n1 Y;refine jh4 Y (uw p)[n] k _ ?_;rw[dn,cx af,hBl,hG,show h.length+5+(gM ms).length+1 - (h.length+5)=(gM ms).length+1 by omega,dn,cx aa,show(gM ms).length+1 - (gM ms).length=1 by omega];rfl
  .intro E' l D j x L r0 rb rd hr hN' za wo hbd;rw[hN]at hN';have n0l:∀a b d f (M:g9) (o o':AObj),(T a b d f++(G++o::o'::M))[h.length+5+G.length+1]?=some o':=λa b d f M o o'=>by
    rw[<-dn,cx af,c7,yf,show h.length+5+G.length+1 - (h.length+5+G.length)=1 by omega];rfl
   have n0s:∀a b d f (M:g9) (o o' y:AObj),(T a b d f++(G++o::o'::M)).set (h.length+5+G.length+1) y=T a b d f++(G++o::y::M):=λa b d f M o o' y=>by
    rw[<-dn,fk _ _ af,c7,yf,show h.length+5+G.length+1 - (h.length+5+G.length)=1 by omega,dn];rfl
   have zl:∀a b d f (o o' y:AObj),(T a b d f++(G++o::o'::(L++[y])))[h.length+5+(G.length+(L.length+1+1))]?=some y:=λa b d f o o' y=>by
    rw[<-dn,cx af,c7,yf,show h.length+5+(G.length+(L.length+1+1)) - (h.length+5+G.length)=L.length+2 by omega];simp
   have zs:∀a b d f (o o' y z:AObj),(T a b d f++(G++o::o'::(L++[y]))).set (h.length+5+(G.length+(L.length+1+1))) z=T a b d f++(G++o::o'::(L++[z])):=λa b d f o o' y z=>by
    rw[<-dn,fk _ _ af,c7,yf,show h.length+5+(G.length+(L.length+1+1)) - (h.length+5+G.length)=L.length+2 by omega,dn];simp
   have hEl:E'.h.length=h.length+5+G.length+2+L.length:=af;have hLu:hUnder (h.length+5+G.length+2+L.length) L=true:=by
    rw[hEl,za,qx,cw]at wo;have:=wo.2;simp only[hUnder,cw]at this;exact this.2.2
   have fin:∀(a b:Int) (d:Bool) (f:Int) (r:AObj),r.under (h.length+5+G.length+2+L.length)=true->Wk E' ⟨[],T (I a) (I b) (Bo d) (I f)++(G++nu D::r::(L++[.cells x.x]))⟩ ⟨[],T (I a) (I b) (Bo d) (I f)++(G++nu D::r::L)⟩:=λa b d f r zb=>by
    refine Wk.mk ?_ ?_ ?_ trivial
    .simp_all
    .exact qxt.2 (qxt.2 ⟨.refl _,.refl _,hwk.app0 _⟩)
    .have e1:(T (I a) (I b) (Bo d) (I f)++(G++nu D::r::L)).length=h.length+5+G.length+2+L.length:=by simp[yf];omega
     show hUnder (T (I a) (I b) (Bo d) (I f)++(G++nu D::r::L)).length _=true;rw[e1,qx,uk aa (hTu a b d f),qx,hGu];have hm0:(nu D).under (h.length+5+G.length+2+L.length)=true:=rfl;simp only[hUnder,zb,hLu,hm0,fa]
   have hrm:=hr (h.length+5+G.length+2+L.length) aa;rw[za,hN];simp only[hB,hX,dn];refine qbq _ _ _ _ ?_;simp-dsimp[slots,List.range,List.range.loop,go_sem,hN',yf,zl,zs,n0l,n0s];refine qbq _ _ _ _ ?_;simp-dsimp[go_sem,hN',yf,zl];refine iv (jbw x.op) ?_;simp-dsimp[go_sem,hN',yf,zl];refine ii (λhx=>?_) (λhx=>?_)
   .simp-dsimp[go_sem,hN',yf,zl];refine xzx 4 mixed ae ae ?_;simp-dsimp[go_sem,hN',yf,zl,g1,g2,g3,g4,s1,s2,s3];refine⟨by simp[qq6,List.zipIdx];omega,?_⟩;refine⟨n0l _ _ _ _ _ _ _,T (I x.op) (I (IntKind.i64.wrap (j:Int))) (Bo true) (I (IntKind.i64.wrap (j:Int)))++(G++nu D::rd::L),?_,λ_=>⟨rfl,rfl⟩,λhh=>by rw[hx]at hh;cases hh⟩;rw[n0s];exact fin _ _ _ _ _ hrm.2.2
   .simp-dsimp[go_sem,hN',yf,zl,g4,s4];rw[je7];refine⟨n0l _ _ _ _ _ _ _,T (I 0) (I 0) (Bo false) (I (IntKind.i64.wrap ((j:Int)+1)))++(G++nu D::r0::L),?_,λhh=>af,λ_=>⟨rfl,ac⟩⟩;rw[n0s];exact fin _ _ _ _ _ hrm.1
  .intro j D o hs;rw[hs]at hI;simp only at hI;simp-dsimp[go_sem,hN,hw];refine⟨n+1,j,⟨aa,hI⟩,aa,ms++[none,none,some D],(xze ms D).symm,Wk.mk af ?_ ?_ (by simp[go_sem,hBl];try omega)⟩
   .rw[hG,xw1,dn];exact qxt.2 (qxt.2 ⟨trivial,trivial,.refl _,trivial⟩)
   .grind[c7,qx,uk,xmg]
  .intro j x D o hs;rw[hs]at hI;simp only at hI;simp-dsimp[go_sem,hN];refine⟨(h.length+5+ms.length+2,D)::ql7 (h.length+5) ms,by rw[dj,xfj],?_,?_,?_⟩
   .rw[dj,qiy];refine⟨λhm=>?_,xfu _ _⟩;rw[cy]at hm;obtain⟨q,hq,he⟩:=hm;have:=qu5 _ _ q hq;omega
   .intro q hq;show(X j x++(G++[nu D,o]))[q.1]?=_;rcases c0.1 hq with rfl|hq
    .rw[cx af,hXl,hG,dn,cx (by grind[gM])];simp only[gM,eo];rw[show h.length+5+ms.length+2 - (h.length+5) - ms.length=2 by omega];rfl
    .obtain⟨q1,q2,q3⟩:=qu5 _ _ q hq;rw[cx af,hXl,hG,dn,co af];exact q3
   .obtain⟨Z',hZ⟩:=xfi ((h.length+5+ms.length+2,D)::ql7 (h.length+5) ms) (X j x) (G++[nu D,o]) (λq hq=>by
     rw[hXl];rcases c0.1 hq with rfl|hq
     .omega
     .exact(qu5 _ _ q hq).1)
    show qvf _ _ _ _ ⟨_,qee ((h.length+5+ms.length+2,D)::ql7 (h.length+5) ms) (X j x++(G++[nu D,o]))⟩;rw[hZ,hX];have hf:=xnr (zy (uw p)) 0;rw[<-hI]at hf;simp only at hf;rw[show((0:Nat):Int)=0 from rfl]at hf;rw[hf];simp-dsimp[go_sem,hN,g1,g2,g3];exact⟨_,.refl _,h,rfl,qim,ac,hu,rfl,rfl⟩
 .rw[cq aa,zy,scan]at hI;simp-dsimp[go_sem,hN,hB,g1,g2,g3,s1,s2,s3];refine⟨ql7 (h.length+5) ms,(xfj _ _).symm,xfu _ _,?_,?_⟩
  .intro q hq;obtain⟨q1,q2,q3⟩:=qu5 _ _ q hq;show(T _ _ _ _++gM ms)[q.1]?=_;rw[cx af,yf];exact q3
  .obtain⟨Z',hZ⟩:=xfi (ql7 (h.length+5) ms) (T (I 0) (I 0) (Bo false) (I (IntKind.i64.wrap (k:Int)))) (gM ms) (λq hq=>by
    rw[yf];exact(qu5 _ _ q hq).1)
   show qvf _ _ _ _ ⟨_,qee (ql7 (h.length+5) ms) (T (I 0) (I 0) (Bo false) (I (IntKind.i64.wrap (k:Int)))++gM ms)⟩;rw[hZ];have hf:=xnr (zy (uw p)) 0;rw[<-hI]at hf;simp only at hf;rw[show((0:Nat):Int)=0 from rfl]at hf;rw[hf];simp-dsimp[go_sem,hN,g1,g2,g3];exact⟨_,.refl _,h,rfl,qim,ac,hu,rfl,rfl⟩
theorem xuq(p:Proc):APure prog 203 [.agg p.c] (I (qwe p)):=by
 refine kl func203 ntmps203 rfl ae rfl rfl λE h hN hh hu hb=>?_;simp-dsimp[go_sem,hN];refine iv (xru p) ?_;simp-dsimp[go_sem,hN];refine ii ?_ ?_<;>intro h0<;>simp at h0
 .simp-dsimp[go_sem,hN];rw[qwe,if_pos h0]
 simp-dsimp[go_sem,hN];refine iy (xwv p _) ?_;rintro r h' ⟨rfl,rfl⟩;simp-dsimp[go_sem,hN];refine ii (λh1=>?_) (λh1=>?_)
 .simp-dsimp[go_sem,hN];rw[qwe,if_neg aa,if_pos h1]
 .simp-dsimp[go_sem,hN];rw[qwe,if_neg aa,if_neg af]
end Go.Proofs.YtolejdhnnchfpaaGreatDoor
set_option maxHeartbeats 1000000
namespace Go.Proofs.YtolejdhnnchfpaaGreatDoor
open Go Go.Abs Go.Cw Go.Proofs.Tryz
attribute [local go_sem] Cnt.c
theorem jk6(p:Proc):APure prog 175 [.agg p.c] (I (qdq p)):=by
 refine kl func175 ntmps175 rfl ae rfl rfl λE h hN hh hu hb=>?_;rw[qdq];simp-dsimp[go_sem,hN];refine iv (xuq p) ?_;simp-dsimp[go_sem,hN];refine ii ?_ ?_<;>intro h0<;>simp at h0
 .simp-dsimp[go_sem,hN];exact λk=>absurd k h0
 rw[if_neg aa];simp-dsimp[go_sem,hN];refine iv (xfp p.body) ?_;simp-dsimp[go_sem,hN];refine ii ?_ ?_<;>intro h1<;>simp at h1
 .simp-dsimp[go_sem,hN];exact λk=>absurd k aa
 rw[if_neg aa];simp-dsimp[go_sem,hN];refine ii ?_ ?_<;>intro h2<;>simp at h2
 .simp-dsimp[go_sem,hN];refine ii (λ_=>?_) (λk=>by simp at k;omega);simp-dsimp[go_sem,hN];exact λ_=>aa
 simp-dsimp[go_sem,hN];refine ii ?_ ?_<;>intro h3<;>simp at h3
 .simp-dsimp[go_sem,hN];refine ii (λ_=>?_) (λk=>by simp at k;omega);simp-dsimp[go_sem,hN];exact λ_=>aa
 simp-dsimp[go_sem,hN];refine ii ?_ ?_<;>intro h4<;>simp at h4
 .simp-dsimp[go_sem,hN];exact λ_=>aa
 simp-dsimp[go_sem,hN];omega
section
attribute [local go_sem] mC
variable {C:Cfg} {v o io ir ip:Nat}
theorem jb6{h:g9}{m:Nat}(q:MQ)(hm:h[m]?=some (.cells (mC C v o io ir ip q)))(hir:h[ir]?=some (.arr 9 1 (q.reads.map ja)))(hip:h[ip]?=some (.arr 9 1 (q.puts.map ja)))
  (hr:q.nr=q.reads.length) (hp:q.np=q.puts.length) (z:Stop) :
  ACalls prog 179 [.ptr m 0,.agg [I z.status,I z.code,.slice [],S z.miss],Bo true] h λr h'=>r=.ret (.agg [I z.status,I z.code,.slice [],.slice (q.reads.map ja),.slice (q.puts.map ja),.slice [],S z.miss,I q.steps])/\h'=h:=by
 refine mh func179 ntmps179 rfl ae rfl λE hN hh hu hb iq ju=>?_;have lm:m<h.length:=(cm.1 hm).1;have lr:ir<h.length:=(cm.1 hir).1;have lp:ip<h.length:=(cm.1 hip).1;have gm:∀l:g9,(h++l)[m]?=some (.cells (mC C v o io ir ip q)):=λl=>by rw[co lm];exact hm
 have gr:∀l:g9,(h++l)[ir]?=some (.arr 9 1 (q.reads.map ja)):=λl=>by rw[co lr];exact hir
 have gp:∀l:g9,(h++l)[ip]?=some (.arr 9 1 (q.puts.map ja)):=λl=>by rw[co lp];exact hip
 simp-dsimp[go_sem,hN,gm];refine xeb 6 mixed ae ?_;simp-dsimp[go_sem,hN];refine⟨qhz,?_⟩
 try simp-dsimp[go_sem,hN]
 refine⟨_,.refl _,h,by simp[go_sem,gr,gp,hr,hp],hwk.app0 _,cn _,hu,?_,rfl⟩;simp[gr,gp,hr,hp]
@[simp] theorem jof(o:Option V):(Option.map tu o).getD (.agg [I 0,I 0,S ⟨#[]⟩])=.agg (o.getD V.nil).c:=by cases o<;>rfl
def wrP(own:List (ig×V))(k:ig):Pr:=⟨k,(kz own k).getD V.nil⟩
theorem jew{h:g9}{m:Nat}(q:MQ)(hm:h[m]?=some (.cells (mC C v o io ir ip q)))(hio:h[io]?=some (.arr 57 3 (q.out.map V.c)))(hir:h[ir]?=some (.arr 9 1 (q.reads.map ja)))(hip:h[ip]?=some (.arr 9 1 (q.puts.map ja)))
  (ho:h[o]?=some (.map (mr tu q.own))) (hn:q.no=q.out.length) (hr:q.nr=q.reads.length) (hp:q.np=q.puts.length) (hl:q.puts.length+1<=68719476736) :
  ACalls prog 179 [.ptr m 0,.agg [I 0,I 0,.slice [],S em],Bo false] h λr h'=>r=.ret (.agg [I 1,I 0,.slice (q.out.map V.c),.slice (q.reads.map ja),.slice (q.puts.map ja),.slice ((q.puts.map (wrP q.own)).map Pr.c),S em,I q.steps])/\h'=h:=by
 obtain⟨qv,qo,qout,qr,qp,qno,qnr,qnp,qs⟩:=q;simp only at hn hr hp hl;subst hn;subst hr;subst hp;simp only at hio hir hip ho;refine mh func179 ntmps179 rfl ae rfl λE hN hh hu hb iq ju=>?_;have lm:m<h.length:=(cm.1 hm).1;have lo:o<h.length:=(cm.1 ho).1;have lio:io<h.length:=(cm.1 hio).1;have lr:ir<h.length:=(cm.1 hir).1;have lp:ip<h.length:=(cm.1 hip).1;have gm:∀l:g9,(h++l)[m]?=some (.cells (mC C v o io ir ip ⟨qv,qo,qout,qr,qp,qout.length,qr.length,qp.length,qs⟩)):=λl=>by rw[co lm];exact hm
 have go:∀l:g9,(h++l)[o]?=some (.map (mr tu qo)):=λl=>by rw[co lo];exact ho
 have gi:∀l:g9,(h++l)[io]?=some (.arr 57 3 (qout.map V.c)):=λl=>by rw[co lio];exact hio
 have gr:∀l:g9,(h++l)[ir]?=some (.arr 9 1 (qr.map ja)):=λl=>by rw[co lr];exact hir
 have gp:∀l:g9,(h++l)[ip]?=some (.arr 9 1 (qp.map ja)):=λl=>by rw[co lp];exact hip
 simp-dsimp[go_sem,hN,gm,gp];refine jz qp.length (λn=>True) (λn=>⟨[(0,.ptr m 0),(6,.ptr (h.length+1) 0),(7,.ptr (h.length+2) 0),(25,.slice (qp.map ja)),(26,I qp.length),(27,I n)],h++[.cells [I 0,I 0,.slice [],S em],.cells [I 0,I 0,.nils,.nils,.nils,.nils,S em,I 0],.cells [I 1,I 0,.own io qout.length,.own ir qr.length,.own ip qp.length,.own (h.length+3) n,S em,I qs],.arr 59 4 (((qp.take n).map (wrP qo)).map Pr.c)]⟩) trivial ((qol E _ (p:=h.length+2) (j:=5) (t:=59) (sz:=4) (xs:=[I 1,I 0,.own io qout.length,.own ir qr.length,.own ip qp.length,.nils,S em,I qs]) ac rfl).trans ?_) ?_
 .simp;exact(quy E _).trans (Wk.mk ai ac (by simp[hu,tj hu,go_sem];omega) (by simp[go_sem,gp];omega))
 intro n hn' _;have hw:=jj hn' aa;simp-dsimp[go_sem,hN];refine ii ?_ ?_<;>intro hc<;>simp at hc
 .simp-dsimp[go_sem,hN,hc];refine jt 11 mixed ae ae ?_;simp-dsimp[go_sem,hN,gm,go,hw];refine⟨aa,aa,hc,?_⟩;rw[show(qp.map (Pr.c∘wrP qo)).take (n+1)=(qp.map (Pr.c∘wrP qo)).take n++[Pr.c (wrP qo qp[n])]by rw[ec af];simp];exact Wk.mk ai (by simp[go_sem,wrP]) (by simp[hu,tj hu,go_sem];omega) qe3
 .simp-dsimp[go_sem,hN];have hnq:n=qp.length:=aa;subst hnq;rw[fw ac];refine⟨_,.refl _,h,by simp[go_sem,gi,gr,gp],hwk.app0 _,cn _,hu,?_,rfl⟩;simp[gi,gr,gp]
end
end Go.Proofs.YtolejdhnnchfpaaGreatDoor
set_option maxHeartbeats 2000000
namespace Go.Proofs.YtolejdhnnchfpaaGreatDoor
open Go Go.Abs Go.Cw Go.Proofs.Tryz
section
attribute [local go_sem] mC
theorem xxz(n:Nat)(l:List (ig×V)):(AObj.map (mr tu l)).under n=true:=xd9 (f:=tu) (λn a=>by simp[AV.under,V.c,lj]) n l
theorem xrc(n:Nat)(l:List (ig×V)):(∀(a b:AV),(a,b)∈mr tu l->AV.under n a=true/\AV.under n b=true)=True:=by
 refine eq_true λa b hab=>?_;obtain⟨s,x,rfl,rfl⟩:=xnz hab;simp[AV.under,V.c,lj]
theorem jbn(m:List (ig×V)):qr0 [] [] m=m:=rfl
theorem jhd(st:List Pr)(ft:Foot)(fmt:Int->ig)(h A L:g9){g:Nat}{tb:AObj}{tV tS:Nat}(hg:h[g]?=some tb)(hu:hUnder h.length h=true)(a l:Nat)(hA:A.length=a)(hL:L.length=l)(uA:hUnder (h.length+(a+l+7)) A=true)(uL:hUnder (h.length+(a+l+7)) L=true) :
  MH (xw fmt st ft) tb tV tS g (h.length+(a+3)) (h.length+(a+1)) (h.length+(a+2)) (h.length+(a+l+4)) (h.length+(a+l+5)) (h.length+(a+l+6))
   (λq=>h++(A++(.cells ft.c::.map (mr tu q.vars)::.map (mr tu q.own)::.cells (mC (xw fmt st ft) (h.length+(a+1)) (h.length+(a+2)) (h.length+(a+l+4)) (h.length+(a+l+5)) (h.length+(a+l+6)) q)::(L++[.arr tV 3 (q.out.map V.c),.uarr tS 1 (q.reads.map ja),.uarr tS 1 (q.puts.map ja)])))) (h.length+(a+l+7)):=by
 have v7:g<h.length:=(cm.1 hg).1;subst hA;subst hL;have e1:∀(X:g9) (k:Nat),(h++X)[h.length+k]?=X[k]?:=λX k=>by rw[cx aa];congr 1;omega
 have e2:∀(X:g9) (k:Nat),(A++X)[A.length+k]?=X[k]?:=λX k=>by rw[cx aa];congr 1;omega
 have e3:∀(X:g9) (k:Nat),(L++X)[L.length+k]?=X[k]?:=λX k=>by rw[cx aa];congr 1;omega
 have s1:∀(X:g9) (k:Nat) (y:AObj),(h++X).set (h.length+k) y=h++X.set k y:=λX k y=>by rw[fk _ _ aa];congr 2;omega
 have s2:∀(X:g9) (k:Nat) (y:AObj),(A++X).set (A.length+k) y=A++X.set k y:=λX k y=>by rw[fk _ _ aa];congr 2;omega
 have s3:∀(X:g9) (k:Nat) (y:AObj),(L++X).set (L.length+k) y=L++X.set k y:=λX k y=>by rw[fk _ _ aa];congr 2;omega
 have e4:∀(a b c d:AObj) (X:g9) (k:Nat),(a::b::c::d::(L++X))[L.length+4+k]?=X[k]?:=λa b c d X k=>by
  rw[show L.length+4+k=(L.length+k)+1+1+1+1 by omega];simp only[qi6];exact e3 X k
 have s4:∀(a b c d y:AObj) (X:g9) (k:Nat),(a::b::c::d::(L++X)).set (L.length+4+k) y=a::b::c::d::(L++X.set k y):=λa b c d y X k=>by
  rw[show L.length+4+k=(L.length+k)+1+1+1+1 by omega];simp only[qj8];rw[s3]
 have i0:h.length+(A.length+L.length+4)=h.length+(A.length+(L.length+4+0)):=aa;have i1:h.length+(A.length+L.length+5)=h.length+(A.length+(L.length+4+1)):=aa;have i2:h.length+(A.length+L.length+6)=h.length+(A.length+(L.length+4+2)):=aa;constructor
 case lg=>intro q;rw[co v7];exact hg
 case len=>intro q;simp;omega
 case und =>
  intro q;rw[qx,uk (Nat.le_add_right _ _) hu,qx,uA];simp only[hUnder,xxz,qx,uL,dh,fa];simp[AObj.under,AV.under,lj,mC,Foot.c];omega
 case lm=>intro q;rw[e1,e2];rfl
 case lv=>intro q;rw[e1,e2];rfl
 case lo=>intro q;rw[e1,e2];rfl
 case lio=>intro q;rw[i0,e1,e2,e4];rfl
 case lir=>intro q;rw[i1,e1,e2,e4];rfl
 case lip=>intro q;rw[i2,e1,e2,e4];rfl
 case sm=>intro q no nr np s;rw[s1,s2];rfl
 case sv=>intro q x;rw[s1,s2];rfl
 case so=>intro q x;rw[s1,s2];rfl
 case sio=>intro q x;simp only[i0,s1,s2,s4];rfl
 case sir=>intro q x;simp only[i1,s1,s2,s4];rfl
 case sip=>intro q x;simp only[i2,s1,s2,s4];rfl
 all_goals omega
variable {C:Cfg} {tT:TypeId} {tx:Nat×Nat} {g m v o io ir ip:Nat} {K:MQ->g9} {n0:Nat}
theorem jkn(hF:C.fmt=ku)(hC:u5 C)(p:Proc)(hG:∀x∈p.body,goS x)(Y:MHs C tT tx g m v o io ir ip K n0)(s:MS)(hI:Cw.Inv 0 0 s){a b:Nat}(ha:∀q,(K q)[a]?=some (.cells [.ptr m 0]))(hb0:∀q,(K q)[b]?=some (.cells p.c)) :
  ACalls prog 181 [.ptr a 0,.ptr b 0] (K s.q) λr h'=>r=od (mc C p.body s).1/\h'=K (mc C p.body s).2.q:=by
 refine mh func181 ntmps181 rfl ae rfl λE hN hh hu hb iq ju=>?_;simp-dsimp[go_sem,hN,ha,hb0];refine iy (qen hF hC p.body hG Y s hI) ?_;rintro r h' ⟨rfl,rfl⟩;rcases mc C p.body s with⟨z|⟨⟩,s1⟩<;>simp-dsimp[go_sem,hN,od]<;>exact⟨_,.refl _,K s1.q,ag,ah,ax,Y.und' _,au,aj⟩
abbrev effZ:AObj:=.cells [I 0,I 0,.nils,.nils,.nils,.nils,S em,I 0]
def qz9:Except Stop Unit->List AV
 | .ok _=>zs
 | .error z=>[I z.status,I z.code,.slice [],S z.miss]
def isE:Except Stop Unit->Bool
 | .ok _=>false
 | .error _=>true
@[simp] theorem jnq(H:g9)(x:Except Stop Unit):ko H (qz9 x)=qz9 x:=by cases x<;>rfl
@[simp] theorem jme(n:Nat)(x:Except Stop Unit):lj n (qz9 x)=true:=by cases x<;>rfl
theorem xyf{a:AV}{f:FuncId}{caps:List AV}{h h1:g9}{x:Except Stop Unit}(hl:h1.length=h.length)(hu:hUnder h.length h1=true)(hc:∀H,ko H caps=caps)(hg:ACalls prog f caps (h++[.cells [I 0,I 0,.nils,S em],.cells [Bo false]]) λr h'=>r=od x/\h'=h1++[.cells [I 0,I 0,.nils,S em],.cells [Bo false]]) :
  ACalls prog 180 [a,.fn (.func f) [] caps] h λr h'=>r=.ret (.tuple [.agg (qz9 x),Bo (isE x)])/\h'=h1:=by
 refine jjy a (g:=f) (first:=[]) (caps:=caps) (by rw[ff,hc];exact hg) ?_ ?_
 .rintro r h' ⟨rfl,rfl⟩ _;have e1:(h1++[AObj.cells [I 0,I 0,.nils,S em],AObj.cells [Bo false]])[h.length]?=some (.cells [I 0,I 0,.nils,S em]):=af;have e2:(h1++[AObj.cells [I 0,I 0,.nils,S em],AObj.cells [Bo false]])[h.length+1]?=some (.cells [Bo false]):=af;have e3:(h1++[AObj.cells [I 0,I 0,.nils,S em],AObj.cells [Bo false]]).take h.length=h1:=af;refine⟨⟨_,e1,rfl⟩,⟨_,e2⟩,by rw[e3];exact hu,?_⟩;rw[e3];rcases x with z|u
  .exact⟨rfl,rfl,qhb,rfl,rfl⟩
  .exact⟨rfl,rfl⟩
 .rintro h' st ⟨h1,_⟩ H;rcases x with z|u
  .simp only[od,qp1,AEnd.panic.injEq,AV.iface.injEq,AV.agg.injEq,true_and]at h1;subst h1;rfl
  .cases h1
theorem jjj{h:g9}(x:Except Stop Unit)(s:MS)(hm:h[m]?=some (.cells (mC C v o io ir ip s.q)))(hio:h[io]?=some (.arr 57 3 (s.out.map V.c)))(hir:h[ir]?=some (.arr 9 1 (s.reads.map ja)))(hip:h[ip]?=some (.arr 9 1 (s.puts.map ja)))
  (ho:h[o]?=some (.map (mr tu s.own))) (hl:s.puts.length+1<=68719476736) :
  ACalls prog 179 [.ptr m 0,.agg (qz9 x),Bo (isE x)] h λr h'=>r=.ret (.agg (qmj (x,s)).c)/\h'=h:=by
 rcases x with z|u
 .exact jb6 s.q hm hir hip rfl rfl z
 .exact jew s.q hm hio hir hip ho rfl rfl rfl hl
theorem xzk(p:Proc)(args:List V)(st:List Pr)(ft:Foot)(h:g9)(hg:h[g]?=some (rn tT tx))(hI:RunIn ku p args st) :
  ACalls prog 145 [.agg p.c,.slice (args.map V.c),.slice (st.map Pr.c),.agg ft.c] h λr h'=>r=.ret (.agg (oi ku p args st ft).c)/\h'=h:=by
 refine mh func145 ntmps145 rfl ae rfl λE hN hh hu hb iq ju=>?_;simp[go_sem]at hb;simp-dsimp[go_sem,hN];refine iv (jk6 p) ?_;simp-dsimp[go_sem,hN];refine kq (xnl p args) ac ?_;simp-dsimp[go_sem,hN];refine kq (qb6 st) ac ?_;simp-dsimp[go_sem,hN];refine kq (jaj ft.all ft.reads ft.writes) ac ?_;simp-dsimp[go_sem,hN]
 repeat refine⟨af,?_⟩
 refine ii ?_ ?_<;>intro h0<;>simp at h0
 .have kf:¬qkn p args st ft:=by rw[qcp];grind
  rw[qod kf];simp-dsimp[go_sem,hN];refine iy (ji5 _) ?_;rintro r h' ⟨rfl,rfl⟩;simp-dsimp[go_sem,hN];exact⟨_,.refl _,h,ag,hwk.app0 _,cn _,hu,rfl,rfl⟩
 have kp:qkn p args st ft:=by rw[qcp];grind
 have qrc:=(qcp _ _ _ _).1 kp;have jm:=(xsq qrc.2.1).1;rw[qeh kp];simp-dsimp[go_sem,hN];refine iy (xyd st ft _) ?_;rintro r h' ⟨rfl,rfl⟩;simp-dsimp[go_sem,hN];have Y:=jhd (tb:=rn tT tx) (tV:=57) (tS:=9) st ft ku h [.cells p.c,.cells ft.c,effZ] [.cells [.ptr (h.length+6) 0]] hg hu 3 1 rfl rfl (by simp[hUnder,AObj.under,AV.under,lj,Proc.c,Foot.c]) ay;simp only[qix,ff,Nat.reduceAdd]at Y;refine td (α:=List (ig×V)) p.params.length (λn vs=>qr0 (p.params.drop n) (args.drop n) vs=qr0 p.params args []) (λn vs=>⟨[(1,.slice (args.map V.c)),(4,.ptr h.length 0),(8,.ptr (h.length+2) 0),(9,.ptr (h.length+7) 0),(36,.slice (p.params.map Param.c)),(37,I p.params.length),(38,I n)],h++[.cells p.c,.cells ft.c,effZ,.cells ft.c,.map (mr tu vs),.map (mr tu []),.cells (mC (xw ku st ft) (h.length+4) (h.length+5) (h.length+8) (h.length+9) (h.length+10) ⟨vs,[],[],[],[],0,0,0,0⟩),.cells [.ptr (h.length+6) 0],.arr 57 3 [],.uarr 9 1 [],.uarr 9 1 []]⟩) [] ac ?_ ?_
 .refine(qol E _ (p:=h.length+6) (j:=8) (t:=57) (sz:=3) (xs:=[.slice (st.map Pr.c),Bo ft.all,.slice (ft.reads.map ja),.slice (ft.writes.map ja),.mapr (h.length+4),.mapr (h.length+5),I 0,I 0,.nils,.nils,.nils,.nils,S em,I 0]) ac rfl).trans ?_;simp;refine(xas E _ (p:=h.length+6) (j:=9) (t:=9) (sz:=1) (xs:=[.slice (st.map Pr.c),Bo ft.all,.slice (ft.reads.map ja),.slice (ft.writes.map ja),.mapr (h.length+4),.mapr (h.length+5),I 0,I 0,.own (h.length+8) 0,.nils,.nils,.nils,S em,I 0]) ac rfl).trans ?_;simp;refine(xas E _ (p:=h.length+6) (j:=10) (t:=9) (sz:=1) (xs:=[.slice (st.map Pr.c),Bo ft.all,.slice (ft.reads.map ja),.slice (ft.writes.map ja),.mapr (h.length+4),.mapr (h.length+5),I 0,I 0,.own (h.length+8) 0,.own (h.length+9) 0,.nils,.nils,S em,I 0]) ac rfl).trans ?_;simp[mr,ra];exact mj
 intro n vs hn s8;have hw:=jj hn hb.1.2.1.1;simp-dsimp[go_sem,hN];refine ii ?_ ?_<;>intro hc<;>simp at hc
 .have nh:n<args.length:=aa;simp-dsimp[go_sem,hN,hc];refine jt 10 mixed ae ae ?_;simp-dsimp[go_sem,hN,hc,nh,hw];refine⟨lx vs p.params[n].name args[n],?_,Wk.mk ai ag (by simp[hu,tj hu,go_sem,xrc]) ag⟩;rw[jv hc,jv nh,qr0]at s8;exact s8
 .rw[cq hc,cq aa,jbn]at s8;subst s8;obtain⟨x,s1,hB⟩:∃x s1,mc (xw ku st ft) p.body (ms0 p args)=(x,s1):=⟨_,_,rfl⟩
  have hd:=(qyv (C:=xw ku st ft) (λq hq=>hI.st q hq) p.body 1 (ms0 p args) (qz4 qrc.1) (xaj qrc.1 hI.body) (qzf hI)).pu;rw[hB]at hd;have qm:=xpl qrc.1;have hlim:=xeq qrc.1;simp only[ed,cz]at hd;have Y2:=Y.ext [.cells [I 0,I 0,.nils,S em],.cells [Bo false]] ay;have hr:=jkn (C:=xw ku st ft) rfl (λq hq=>hI.st q hq) p (xaj qrc.1 hI.body) Y2 (ms0 p args) (qzf hI) (a:=h.length+7) (b:=h.length) ac ac;rw[hB]at hr;have jk:=xyf (a:=.ptr (h.length+6) 0) ac (by simp[qx,hu,uk,tj hu,go_sem,xrc,MS.q]) (λH=>by simp[ko,AV.norm]) hr;simp-dsimp[go_sem,hN];refine qw5 6 3 [0] mixed ae ?_;simp-dsimp[go_sem,hN];refine qyx jk ?_;simp-dsimp[go_sem,hN];obtain⟨Hd,hHd⟩:∃Hd:AObj->AObj->g9,∀u1 u2,Hd u1 u2=h++[.cells p.c,.cells ft.c,effZ,.cells ft.c,.map (mr tu s1.vars),.map (mr tu s1.own),.cells (mC (xw ku st ft) (h.length+4) (h.length+5) (h.length+8) (h.length+9) (h.length+10) s1.q),.cells [.ptr (h.length+6) 0],.arr 57 3 (s1.out.map V.c),u1,u2]:=⟨λu1 u2=>_,λ_ _=>rfl⟩
  have oh:∀E,Wk E ⟨[],Hd (.uarr 9 1 (s1.reads.map ja)) (.uarr 9 1 (s1.puts.map ja))⟩ ⟨[],Hd (.arr 9 1 (s1.reads.map ja)) (.arr 9 1 (s1.puts.map ja))⟩:=λE=>by
   have d1:=qdt E ⟨[],Hd (.uarr 9 1 (s1.reads.map ja)) (.uarr 9 1 (s1.puts.map ja))⟩ (i:=h.length+9) (t:=9) (sz:=1) (rows:=s1.reads.map ja) qf2;have d2:=qdt E ⟨[],Hd (.arr 9 1 (s1.reads.map ja)) (.uarr 9 1 (s1.puts.map ja))⟩ (i:=h.length+10) (t:=9) (sz:=1) (rows:=s1.puts.map ja) qf2;refine d1.trans ?_;have e1:(Hd (.uarr 9 1 (s1.reads.map ja)) (.uarr 9 1 (s1.puts.map ja))).set (h.length+9) (.arr 9 1 (s1.reads.map ja))=Hd (.arr 9 1 (s1.reads.map ja)) (.uarr 9 1 (s1.puts.map ja)):=qf2;have e2:(Hd (.arr 9 1 (s1.reads.map ja)) (.uarr 9 1 (s1.puts.map ja))).set (h.length+10) (.arr 9 1 (s1.puts.map ja))=Hd (.arr 9 1 (s1.reads.map ja)) (.arr 9 1 (s1.puts.map ja)):=qf2;rw[e2]at d2;rw[e1];exact d2
  have qqj:=jjj (C:=xw ku st ft) (m:=h.length+6) (v:=h.length+4) (o:=h.length+5) (io:=h.length+8) (ir:=h.length+9) (ip:=h.length+10) (h:=Hd (.arr 9 1 (s1.reads.map ja)) (.arr 9 1 (s1.puts.map ja))) x s1 qf2 qf2 qf2 qf2 qf2 aa;have hfin2:=xc7 oh qqj;rw[hHd,hHd]at hfin2;refine iy hfin2 ?_;rintro r h' ⟨rfl,rfl⟩;simp-dsimp[go_sem,hN];rw[hB];exact⟨_,.refl _,h,ag,hwk.app0 _,cn _,hu,rfl,rfl⟩
end
end Go.Proofs.YtolejdhnnchfpaaGreatDoor
