/- Part 41 of a proof. -/
import Derived.Shelf.Small.Strs
import Derived.Shelf.Strconv.Itoa4
import Derived.Lib.ItoaLen
import Derived.Test.YtbimdamecieomaaGreatDoorR39
import Derived.Test.YtbimdamecieomaaGreatDoorR40
set_option linter.all false
set_option maxRecDepth 4000
namespace Go.Proofs.YtbimdamecieomaaGreatDoor
open Go Go.Abs Go.Cw Tryz
theorem xqa{l:Nat}{HF:Nat→gz}{HX:Nat→Ex→gz}{stop:Ex→Bool}{n0:Nat}(Y:YH prog l HF HX stop n0)(e:Ex)(k:Nat) :
  ACalls prog 260 [.agg e.x,.fn (.yield l) [] []] (HF k) fun r h'=>r=.ret (Bo (scan stop (qq5 e) k).2.isNone)∧h'=yl HF HX (scan stop (qq5 e) k):=by
 refine xw3 func260 rfl ac (by simp[ntmps260]) ?_;intro E hN hh hu hb il kr;rw[ntmps260]at hN;simp[go_sem]at hb;have y0:∀(k:Nat) (x:AObj) (L:gz),(HF k++x::L)[n0]?=some x:=fun k x L=>by
  rw[cy qgb,Y.len,ff];rfl
 have y1:∀(k:Nat) (z:Ex) (x:AObj) (L:gz),(HX k z++x::L)[n0]?=some x:=fun k z x L=>by
  rw[cy (by rw[Y.lenX];omega),Y.lenX,ff];rfl
 refine xfi (qco _ _ _ _ ?_);simp-dsimp[go_sem,hN,Y.len,y0];refine xfi (xfi (jcs ac ?_));simp-dsimp[go_sem,hN,Y.len,y0];have qvr:∀(r:Nat×Option Ex),(yl HF HX r).length=n0:=fun r=>by
  unfold yl;split
  ·exact Y.len _
  ·exact Y.lenX _ _
 have hfu:∀(r:Nat×Option Ex),hUnder (yl HF HX r).length (yl HF HX r)=true:=fun r=>by
  rw[qvr];unfold yl;split
  ·exact Y.und _
  ·exact Y.undX _ _
 refine(Y.y k e _).mono ?_;rintro r h' ⟨mj,hsf⟩;rw[jfs];cases hs:stop e with
 |true =>
  obtain⟨rfl,rfl⟩:=mj hs;simp-dsimp[go_sem,hN];refine xmv (na _ _ _ ?_);simp-dsimp[go_sem,hN];refine⟨[],rfl,qmg,ae,?_⟩;simp-dsimp[go_sem,hN,qsg];exact⟨_,.refl _,HX k e,rfl,ae,by simp[Y.len,Y.lenX],by rw[Y.lenX];exact Y.undX _ _,ae,by simp[yl]⟩
 |false =>
  obtain⟨rfl,rfl⟩:=hsf hs;simp-dsimp[go_sem,hN];refine xmv (na _ _ _ ?_);simp-dsimp[go_sem,hN];refine xmv (na _ _ _ ?_);simp-dsimp[go_sem,hN,Y.len,y0];refine pa (α:=Nat) e.args.length (fun n m=>scan stop (wc (e.args.drop n)) m=scan stop (wc e.args) (k+1)) (fun n m=>⟨[(1,.fn (.yield l) [] []),(12,.slice (e.args.map Ex.c)),(13,I e.args.length),(14,I n)],HF m⟩) (k+1) ae (Wk.mk qgg af qj2 af) ?_;intro n m hn hI;have hw:=iv hn hb.2.1;simp-dsimp[go_sem,hN];refine gy ?_ ?_<;>intro hc<;>simp at hc
  ·rw[ji hc,xv2]at hI;have ib:SizeOf.sizeOf e.args[n]<SizeOf.sizeOf e:=Ex.arg_lt (c9 hc);simp-dsimp[go_sem,hN,hc,Y.len,y0];refine it (xqa (Y.ext [.cells e.args[n].x] af) e.args[n] m) ?_;rintro r h' ⟨rfl,rfl⟩;rcases hq:scan stop (qq5 e.args[n]) m with⟨m',_|y⟩
   ·rw[hq]at hI;simp-dsimp[go_sem,hN,hw,yl];exact⟨hc,_,hI,Wk.mk qgg af qj2 af⟩
   ·rw[hq]at hI;simp only at hI;simp-dsimp[go_sem,hN,yl];refine⟨[],rfl,qmg,ae,?_⟩;rw[←hI];simp-dsimp[go_sem,hN,qsg,yl];exact⟨_,.refl _,HX m' y,rfl,ae,by simp[Y.len,Y.lenX],by rw[Y.lenX];exact Y.undX _ _,rfl,rfl⟩
  ·rw[cv aa,wc,scan]at hI;simp-dsimp[go_sem,hN];refine⟨[],rfl,qmg,ae,?_⟩;rw[←hI];simp-dsimp[go_sem,hN,qsg,yl];exact⟨_,.refl _,HF m,rfl,ae,au,qj2,rfl,rfl⟩
termination_by SizeOf.sizeOf e
theorem je9{l:Nat}{HF:Nat→gz}{HX:Nat→Ex→gz}{stop:Ex→Bool}{n0:Nat}(Y:YH prog l HF HX stop n0)(e:Ex)(k i:Nat)(hi:(HF k)[i]?=some (.cells e.x)) :
  ACalls prog 259 [.fn (.yield l) [] [],.ptr i 0] (HF k) fun r h'=>r=.ret (.tuple [])∧h'=yl HF HX (scan stop (qq5 e) k):=by
 refine lw func259 ntmps259 rfl ac rfl fun E hN hh hu hb il kr=>?_;simp-dsimp[go_sem,hN,hi];refine it (xqa Y e k) ?_;rintro r h' ⟨rfl,rfl⟩;simp-dsimp[go_sem,hN];refine⟨_,.refl _,yl HF HX (scan stop (qq5 e) k),rfl,hwk.refl _,?_,?_,rfl,rfl⟩
 ·unfold yl;split<;>simp[Y.len,Y.lenX]
 ·unfold yl;split
  ·rw[Y.len];exact Y.und _
  ·rw[Y.lenX];exact Y.undX _ _
theorem jhk:qqq Value.nilFunc=.val .nilFunc:=rfl
theorem jg3(e:Ex)(h:gz):ACalls prog 207 [.agg e.x] h fun r h'=>r=.ret (.fn (.func 259) [] [.ptr h.length 0])∧h'=h++[.cells e.x]:=by
 refine lw func207 ntmps207 rfl ac rfl fun E hN hh hu hb il kr=>?_;simp-dsimp[go_sem,hN,jhk];exact⟨_,.refl _,_,by simp[AV.under,nb],hwk.refl _,ae,by rw[cz,vf hu];simp[go_sem],rfl,rfl⟩
theorem jgn(p:Proc)(h:gz):ACalls prog 163 [.agg p.c] h fun r h'=>r=.ret (.tuple [I (qrk p).1,I (IntKind.i64.wrap (qrk p).2.1),Bo (qrk p).2.2])∧h'=h:=by
 refine xw3 func163 rfl ac (by simp[ntmps163]) ?_;intro E hN hh hu hb il kr;rw[ntmps163]at hN;simp[go_sem]at hb;refine qco _ _ _ _ ?_;simp-dsimp[go_sem,hN];refine ia (xoh p) ?_;simp-dsimp[go_sem,hN];refine gy ?_ ?_<;>intro h0<;>simp at h0
 ·simp-dsimp[go_sem,hN];refine⟨[],rfl,qmg,ae,?_⟩;simp-dsimp[go_sem,hN,qsg];rw[qrk,if_pos h0];exact⟨_,.refl _,h,af,af,ae,aq,rfl,rfl⟩
 rw[qrk,if_neg ck];have hxl:(rg p).length≤401:=by
  have:=qy0 xg qpb List.length (fun s _ _=>by simp[xg]) (fun s _=>by simp[qpb]) p.body 1 (401,[]);simp only[ee]at this;unfold rg;omega
 simp-dsimp[go_sem,hN];refine ia (xzt p) ?_;simp-dsimp[go_sem,hN];obtain⟨T,hT⟩:∃T:AV→AV→AV→AV→gz,T=fun a b d f=>h++[.cells p.c,.cells [a],.cells [b],.cells [d],.cells [f]]:=⟨_,rfl⟩
 have hTl:∀a b d f,(T a b d f).length=h.length+5:=fun a b d f=>by rw[hT];simp
 have g1:∀a b d f (Z:gz),(T a b d f++Z)[h.length+1]?=some (.cells [a]):=fun a b d f Z=>by rw[hT];simp
 have g2:∀a b d f (Z:gz),(T a b d f++Z)[h.length+2]?=some (.cells [b]):=fun a b d f Z=>by rw[hT];simp
 have g3:∀a b d f (Z:gz),(T a b d f++Z)[h.length+3]?=some (.cells [d]):=fun a b d f Z=>by rw[hT];simp
 have g4:∀a b d f (Z:gz),(T a b d f++Z)[h.length+4]?=some (.cells [f]):=fun a b d f Z=>by rw[hT];simp
 have s1:∀a b d f a' (Z:gz),(T a b d f++Z).set (h.length+1) (.cells [a'])=T a' b d f++Z:=fun a b d f a' Z=>by rw[hT];simp
 have s2:∀a b d f a' (Z:gz),(T a b d f++Z).set (h.length+2) (.cells [a'])=T a a' d f++Z:=fun a b d f a' Z=>by rw[hT];simp
 have s3:∀a b d f a' (Z:gz),(T a b d f++Z).set (h.length+3) (.cells [a'])=T a b a' f++Z:=fun a b d f a' Z=>by rw[hT];simp
 have s4:∀a b d f a' (Z:gz),(T a b d f++Z).set (h.length+4) (.cells [a'])=T a b d a'++Z:=fun a b d f a' Z=>by rw[hT];simp
 have hTu:∀(a b:Int) (d:Bool) (f:Int),hUnder (h.length+5) (T (I a) (I b) (Bo d) (I f))=true:=fun a b d f=>by rw[hT,vf hu];simp[go_sem]
 obtain⟨B,hB⟩:∃B:Nat→gz,B=fun (k:Nat)=>T (I 0) (I 0) (Bo false) (I (IntKind.i64.wrap (k:Int))):=⟨_,rfl⟩
 have hBl:∀k,(B k).length=h.length+5:=fun k=>by rw[hB,hTl]
 have hBu:∀k,hUnder (h.length+5) (B k)=true:=fun k=>by rw[hB,hT,vf hu];simp[go_sem]
 refine jkn (ι:=Nat×Nat×List (Option Nat)) (fun i=>i.1≤(rg p).length∧scan (fun e=>qsv e.op) (wc ((rg p).drop i.1)) i.2.1=scan (fun e=>qsv e.op) (wc (rg p)) 0)
  (fun i=>(dM i.2.2,⟨[(2,.ptr (h.length+1) 0),(3,.ptr (h.length+2) 0),(4,.ptr (h.length+3) 0),(5,.ptr (h.length+4) 0),(13,.slice ((rg p).map Ex.c)),(14,I (rg p).length),(15,I i.1)],B i.2.1++gM i.2.2⟩)) (fun i=>(rg p).length - i.1) (0,0,[]) ⟨ae,ae⟩ rfl ?_ ?_
 ·simp only[gM,e6,e8,hB,hT];exact ic
 rintro⟨n,k,ms⟩ ⟨hn,hI⟩;simp only at hn hI;have hw:=iv hn aa;refine qco _ _ _ _ ?_;simp-dsimp[go_sem,hN];refine gy ?_ ?_<;>intro hc<;>simp at hc
 ·rw[ji hc,xv2]at hI;simp-dsimp[go_sem,hN,hc];refine it (jg3 (rg p)[n] _) ?_;rintro r h' ⟨rfl,rfl⟩;simp-dsimp[go_sem,hN];have hBu':∀k L m,hUnder (h.length+5+m) L=true→hUnder (h.length+5+m) (B k++L)=true:=fun k L m hL=>by
   rw[tn,ww aa (hBu k),hL];rfl
  have hgu:=xr0;obtain⟨G,hG⟩:∃G:gz,G=gM ms++[.cells (rg p)[n].x,.cells (rg p)[n].x]:=⟨_,rfl⟩
  have hGu:∀m,hUnder m G=true:=fun m=>by
   rw[hG,tn,hgu];simp[go_sem]
  obtain⟨X,hX⟩:∃X:Nat→Ex→gz,X=fun (j:Nat) (x:Ex)=>T (I x.op) (I (IntKind.i64.wrap (j:Int))) (Bo true) (I (IntKind.i64.wrap (j:Int))):=⟨_,rfl⟩
  have hXl:∀j x,(X j x).length=h.length+5:=fun j x=>by rw[hX,hTl]
  have hXu:∀j x,hUnder (h.length+5) (X j x)=true:=fun j x=>by rw[hX,hT,vf hu];simp[go_sem]
  refine jm2 (e1:=⟨[(2,.ptr (h.length+1) 0),(3,.ptr (h.length+2) 0),(4,.ptr (h.length+3) 0),(5,.ptr (h.length+4) 0),(13,.slice ((rg p).map Ex.c)),(14,I (rg p).length),(15,I n),(20,.fn (.func 259) [] [.ptr (h.length+5+(gM ms).length+1) 0])],B k++G⟩) (Wk.mk (by simp[hh,hBl];omega) (by rw[hG];exact hwk.refl _) (by rw[cz,hBl];exact hBu' _ _ _ (hGu _)) (by rw[hG];simp[go_sem,hBl,qli];try omega)) ?_;have hGl:G.length=(gM ms).length+2:=qkx;refine xy0 (gf:=259) (caps:=[.ptr (h.length+5+(gM ms).length+1) 0]) rfl (fun H=>rfl) (fun j=>B j++G) (fun j x=>X j x++G) (fun e=>qsv e.op) (qq5 (rg p)[n]) k (h.length+5+G.length) rfl
   (fun j=>by rw[cz,hBl]) (fun j x=>by rw[cz,hXl]) (fun j=>hBu' _ _ _ (hGu _)) (fun j x=>by rw[tn,ww aa (hXu j x),hGu];rfl) ?_ (by rw[hN];decide) ?_ ?_ ?_ ?_
  ·rw[hN,hGl];simp[slots,List.range,List.range.loop,go_sem];omega
  ·intro l L HX n1 Y;refine je9 Y (rg p)[n] k _ ?_;rw[dr,cy (by rw[hBl];omega),hBl,hG,show h.length+5+(gM ms).length+1 - (h.length+5)=(gM ms).length+1 by omega,dr,cy aa,show(gM ms).length+1 - (gM ms).length=1 by omega];rfl
  ·intro E' l D j x L r0 rb rd hr hN' hh' vl hbd;rw[hN]at hN';have n0l:∀a b d f (M:gz) (o o':AObj),(T a b d f++(G++o::o'::M))[h.length+5+G.length+1]?=some o':=fun a b d f M o o'=>by
    rw[←dr,cy qg2,cz,hTl,show h.length+5+G.length+1 - (h.length+5+G.length)=1 by omega];rfl
   have n0s:∀a b d f (M:gz) (o o' y:AObj),(T a b d f++(G++o::o'::M)).set (h.length+5+G.length+1) y=T a b d f++(G++o::y::M):=fun a b d f M o o' y=>by
    rw[←dr,fq _ _ qg2,cz,hTl,show h.length+5+G.length+1 - (h.length+5+G.length)=1 by omega,dr];rfl
   have zl:∀a b d f (o o' y:AObj),(T a b d f++(G++o::o'::(L++[y])))[h.length+5+(G.length+(L.length+1+1))]?=some y:=fun a b d f o o' y=>by
    rw[←dr,cy qg2,cz,hTl,show h.length+5+(G.length+(L.length+1+1)) - (h.length+5+G.length)=L.length+2 by omega];simp
   have zs:∀a b d f (o o' y z:AObj),(T a b d f++(G++o::o'::(L++[y]))).set (h.length+5+(G.length+(L.length+1+1))) z=T a b d f++(G++o::o'::(L++[z])):=fun a b d f o o' y z=>by
    rw[←dr,fq _ _ qg2,cz,hTl,show h.length+5+(G.length+(L.length+1+1)) - (h.length+5+G.length)=L.length+2 by omega,dr];simp
   have hEl:E'.h.length=h.length+5+G.length+2+L.length:=by rw[hh'];simp[hBl];omega
   have hLu:hUnder (h.length+5+G.length+2+L.length) L=true:=by
    rw[hEl,hh',tn,c0]at vl;have:=vl.2;simp only[hUnder,c0]at this;exact this.2.2
   have fin:∀(a b:Int) (d:Bool) (f:Int) (r:AObj),r.under (h.length+5+G.length+2+L.length)=true→Wk E' ⟨[],T (I a) (I b) (Bo d) (I f)++(G++sh D::r::(L++[.cells x.x]))⟩ ⟨[],T (I a) (I b) (Bo d) (I f)++(G++sh D::r::L)⟩:=fun a b d f r hru=>by
    refine Wk.mk ?_ ?_ ?_ trivial
    ·rw[hEl];simp[hTl];omega
    ·exact qz7.2 (qz7.2 ⟨.refl _,.refl _,hwk.app0 _⟩)
    ·have e1:(T (I a) (I b) (Bo d) (I f)++(G++sh D::r::L)).length=h.length+5+G.length+2+L.length:=by simp[hTl];omega
     show hUnder (T (I a) (I b) (Bo d) (I f)++(G++sh D::r::L)).length _=true;rw[e1,tn,ww aa (hTu a b d f),tn,hGu];have hm0:(sh D).under (h.length+5+G.length+2+L.length)=true:=rfl;simp only[hUnder,hru,hLu,hm0,fl]
   have hrm:=hr (h.length+5+G.length+2+L.length) aa;rw[hh',hN];simp only[hB,hX,dr];refine qco _ _ _ _ ?_;simp-dsimp[slots,List.range,List.range.loop,go_sem,hN',hTl,zl,zs,n0l,n0s];refine qco _ _ _ _ ?_;simp-dsimp[go_sem,hN',hTl,zl];refine ia (jkr x.op) ?_;simp-dsimp[go_sem,hN',hTl,zl];refine gy (fun hx=>?_) (fun hx=>?_)
   ·simp-dsimp[go_sem,hN',hTl,zl];refine jkx 4 mixed ac ac ?_;simp-dsimp[go_sem,hN',hTl,zl,g1,g2,g3,g4,s1,s2,s3];refine⟨by simp[pm,List.zipIdx];omega,?_⟩;refine⟨n0l _ _ _ _ _ _ _,T (I x.op) (I (IntKind.i64.wrap (j:Int))) (Bo true) (I (IntKind.i64.wrap (j:Int)))++(G++sh D::rd::L),?_,fun _=>⟨rfl,rfl⟩,fun hh=>by rw[hx]at hh;cases hh⟩;rw[n0s];exact fin _ _ _ _ _ hrm.2.2
   ·simp-dsimp[go_sem,hN',hTl,zl,g4,s4];rw[jlk];refine⟨n0l _ _ _ _ _ _ _,T (I 0) (I 0) (Bo false) (I (IntKind.i64.wrap ((j:Int)+1)))++(G++sh D::r0::L),?_,fun hh=>(by rw[hx]at hh;cases hh),fun _=>⟨rfl,ae⟩⟩;rw[n0s];exact fin _ _ _ _ _ hrm.1
  ·intro j D o hs;rw[hs]at hI;simp only at hI;simp-dsimp[go_sem,hN,hw];refine⟨n+1,j,⟨aa,hI⟩,aa,ms++[none,none,some D],(xyu ms D).symm,Wk.mk (by simp[hh,hBl];omega) ?_ ?_ (by simp[go_sem,hBl];try omega)⟩
   ·rw[hG,xy9,dr];exact qz7.2 (qz7.2 ⟨trivial,trivial,.refl _,trivial⟩)
   ·rw[cz,hBl,tn,ww aa (hBu j),xr0];rfl
  ·intro j x D o hs;rw[hs]at hI;simp only at hI;simp-dsimp[go_sem,hN];refine⟨(h.length+5+ms.length+2,D)::qod (h.length+5) ms,by rw[c8,xdh],?_,?_,?_⟩
   ·rw[c8,gg];refine⟨fun hm=>?_,xej _ _⟩;rw[dk]at hm;obtain⟨q,hq,he⟩:=hm;have:=qwv _ _ q hq;omega
   ·intro q hq;show(X j x++(G++[sh D,o]))[q.1]?=_;rcases cw.1 hq with rfl|hq
    ·rw[cy (by rw[hXl];simp only;omega),hXl,hG,dr,cy (by simp[gM];omega)];simp only[gM,ew];rw[show h.length+5+ms.length+2 - (h.length+5) - ms.length=2 by omega];rfl
    ·obtain⟨q1,q2,q3⟩:=qwv _ _ q hq;rw[cy (by rw[hXl];exact q1),hXl,hG,dr,cu (by simp[gM];omega)];exact q3
   ·obtain⟨Z',hZ⟩:=xko ((h.length+5+ms.length+2,D)::qod (h.length+5) ms) (X j x) (G++[sh D,o]) (fun q hq=>by
     rw[hXl];rcases cw.1 hq with rfl|hq
     ·simp only;omega
     ·exact(qwv _ _ q hq).1)
    show qxk _ _ _ _ ⟨_,qsg ((h.length+5+ms.length+2,D)::qod (h.length+5) ms) (X j x++(G++[sh D,o]))⟩;rw[hZ,hX];have hf:=xsk (wc (rg p)) 0;rw[←hI]at hf;simp only at hf;rw[show((0:Nat):Int)=0 from rfl]at hf;rw[hf];simp-dsimp[go_sem,hN,g1,g2,g3];exact⟨_,.refl _,h,rfl,qkw,ae,hu,rfl,rfl⟩
 ·rw[cv aa,wc,scan]at hI;simp-dsimp[go_sem,hN,hB,g1,g2,g3,s1,s2,s3];refine⟨qod (h.length+5) ms,(xdh _ _).symm,xej _ _,?_,?_⟩
  ·intro q hq;obtain⟨q1,q2,q3⟩:=qwv _ _ q hq;show(T _ _ _ _++gM ms)[q.1]?=_;rw[cy (by rw[hTl];exact q1),hTl];exact q3
  ·obtain⟨Z',hZ⟩:=xko (qod (h.length+5) ms) (T (I 0) (I 0) (Bo false) (I (IntKind.i64.wrap (k:Int)))) (gM ms) (fun q hq=>by
    rw[hTl];exact(qwv _ _ q hq).1)
   show qxk _ _ _ _ ⟨_,qsg (qod (h.length+5) ms) (T (I 0) (I 0) (Bo false) (I (IntKind.i64.wrap (k:Int)))++gM ms)⟩;rw[hZ];have hf:=xsk (wc (rg p)) 0;rw[←hI]at hf;simp only at hf;rw[show((0:Nat):Int)=0 from rfl]at hf;rw[hf];simp-dsimp[go_sem,hN,g1,g2,g3];exact⟨_,.refl _,h,rfl,qkw,ae,hu,rfl,rfl⟩
theorem jnb(p:Proc):APure prog 133 [.agg p.c] (I (qn1 p)):=by
 refine ik func133 ntmps133 rfl ac rfl rfl fun E h hN hh hu hb=>?_;simp-dsimp[go_sem,hN];refine ia (xpa p) ?_;simp-dsimp[go_sem,hN];refine gy ?_ ?_<;>intro h0<;>simp at h0
 ·simp-dsimp[go_sem,hN];rw[qn1,if_pos h0]
 simp-dsimp[go_sem,hN];refine it (jgn p _) ?_;rintro r h' ⟨rfl,rfl⟩;simp-dsimp[go_sem,hN];refine gy (fun h1=>?_) (fun h1=>?_)
 ·simp-dsimp[go_sem,hN];rw[qn1,if_neg ck,if_pos h1]
 ·simp-dsimp[go_sem,hN];rw[qn1,if_neg ck,if_neg (by rw[h1];simp)]
end Go.Proofs.YtbimdamecieomaaGreatDoor
set_option maxHeartbeats 1000000
namespace Go.Proofs.YtbimdamecieomaaGreatDoor
open Go Go.Abs Go.Cw Tryz
attribute [local go_sem] Cnt.c
theorem jk1(p:Proc):APure prog 85 [.agg p.c] (I (Cw.t6 p)):=by
 refine ik func85 ntmps85 rfl ac rfl rfl fun E h hN hh hu hb=>?_;rw[Cw.t6];simp-dsimp[go_sem,hN];refine ia (jnb p) ?_;simp-dsimp[go_sem,hN];refine gy ?_ ?_<;>intro h0<;>simp at h0
 ·simp-dsimp[go_sem,hN];exact fun k=>absurd k h0
 rw[if_neg ck];simp-dsimp[go_sem,hN];refine ia (xgg p.body) ?_;simp-dsimp[go_sem,hN];refine gy ?_ ?_<;>intro h1<;>simp at h1
 ·simp-dsimp[go_sem,hN];exact fun k=>absurd k aa
 rw[if_neg aa];simp-dsimp[go_sem,hN];refine gy ?_ ?_<;>intro h2<;>simp at h2
 ·simp-dsimp[go_sem,hN];refine gy (fun _=>?_) (fun k=>by simp at k;omega);simp-dsimp[go_sem,hN];exact fun _=>aa
 simp-dsimp[go_sem,hN];refine gy ?_ ?_<;>intro h3<;>simp at h3
 ·simp-dsimp[go_sem,hN];refine gy (fun _=>?_) (fun k=>by simp at k;omega);simp-dsimp[go_sem,hN];exact fun _=>aa
 simp-dsimp[go_sem,hN];refine gy ?_ ?_<;>intro h4<;>simp at h4
 ·simp-dsimp[go_sem,hN];exact fun _=>aa
 simp-dsimp[go_sem,hN];omega
section
attribute [local go_sem] mC
variable {C:Cfg} {v o io ir ip:Nat}
theorem xzv{h:gz}{m:Nat}(q:MQ)(hm:h[m]?=some (.cells (mC C v o io ir ip q)))(hir:h[ir]?=some (.arr 9 1 (q.reads.map im)))(hip:h[ip]?=some (.arr 9 1 (q.puts.map im)))
  (hr:q.nr=q.reads.length) (hp:q.np=q.puts.length) (z:Stop) :
  ACalls prog 90 [.ptr m 0,.agg [I z.status,I z.code,.slice [],S z.miss],Bo true] h fun r h'=>r=.ret (.agg [I z.status,I z.code,.slice [],.slice (q.reads.map im),.slice (q.puts.map im),.slice [],S z.miss,I q.steps])∧h'=h:=by
 refine lw func90 ntmps90 rfl ac rfl fun E hN hh hu hb il kr=>?_;have lm:m<h.length:=(cq.1 hm).1;have lr:ir<h.length:=(cq.1 hir).1;have lp:ip<h.length:=(cq.1 hip).1;have gm:∀l:gz,(h++l)[m]?=some (.cells (mC C v o io ir ip q)):=fun l=>by rw[cu lm];exact hm
 have gr:∀l:gz,(h++l)[ir]?=some (.arr 9 1 (q.reads.map im)):=fun l=>by rw[cu lr];exact hir
 have gp:∀l:gz,(h++l)[ip]?=some (.arr 9 1 (q.puts.map im)):=fun l=>by rw[cu lp];exact hip
 simp-dsimp[go_sem,hN,gm];refine tk 6 mixed ac ?_;simp-dsimp[go_sem,hN];refine⟨qic,?_⟩
 try simp-dsimp[go_sem,hN]
 refine⟨_,.refl _,h,by simp[go_sem,gr,gp,hr,hp],hwk.app0 _,ct _,hu,?_,rfl⟩;simp[gr,gp,hr,hp]
@[simp] theorem jo5(o:Option V):(Option.map Cw.t7 o).getD (.agg [I 0,I 0,S ⟨#[]⟩])=.agg (o.getD V.nil).c:=by cases o<;>rfl
def wrP(own:List (g9×V))(k:g9):Pr:=⟨k,(jg own k).getD V.nil⟩
theorem jif{h:gz}{m:Nat}(q:MQ)(hm:h[m]?=some (.cells (mC C v o io ir ip q)))(hio:h[io]?=some (.arr 71 3 (q.out.map V.c)))(hir:h[ir]?=some (.arr 9 1 (q.reads.map im)))(hip:h[ip]?=some (.arr 9 1 (q.puts.map im)))
  (ho:h[o]?=some (.map (mb Cw.t7 q.own))) (hn:q.no=q.out.length) (hr:q.nr=q.reads.length) (hp:q.np=q.puts.length) (hl:q.puts.length+1≤68719476736) :
  ACalls prog 90 [.ptr m 0,.agg [I 0,I 0,.slice [],S em],Bo false] h fun r h'=>r=.ret (.agg [I 1,I 0,.slice (q.out.map V.c),.slice (q.reads.map im),.slice (q.puts.map im),.slice ((q.puts.map (wrP q.own)).map Pr.c),S em,I q.steps])∧h'=h:=by
 obtain⟨qv,qo,qout,qr,qp,qno,qnr,qnp,qs⟩:=q;simp only at hn hr hp hl;subst hn;subst hr;subst hp;simp only at hio hir hip ho;refine lw func90 ntmps90 rfl ac rfl fun E hN hh hu hb il kr=>?_;have lm:m<h.length:=(cq.1 hm).1;have lo:o<h.length:=(cq.1 ho).1;have lio:io<h.length:=(cq.1 hio).1;have lr:ir<h.length:=(cq.1 hir).1;have lp:ip<h.length:=(cq.1 hip).1;have gm:∀l:gz,(h++l)[m]?=some (.cells (mC C v o io ir ip ⟨qv,qo,qout,qr,qp,qout.length,qr.length,qp.length,qs⟩)):=fun l=>by rw[cu lm];exact hm
 have go:∀l:gz,(h++l)[o]?=some (.map (mb Cw.t7 qo)):=fun l=>by rw[cu lo];exact ho
 have gi:∀l:gz,(h++l)[io]?=some (.arr 71 3 (qout.map V.c)):=fun l=>by rw[cu lio];exact hio
 have gr:∀l:gz,(h++l)[ir]?=some (.arr 9 1 (qr.map im)):=fun l=>by rw[cu lr];exact hir
 have gp:∀l:gz,(h++l)[ip]?=some (.arr 9 1 (qp.map im)):=fun l=>by rw[cu lp];exact hip
 simp-dsimp[go_sem,hN,gm,gp];refine jl qp.length (fun n=>True) (fun n=>⟨[(0,.ptr m 0),(6,.ptr (h.length+1) 0),(7,.ptr (h.length+2) 0),(25,.slice (qp.map im)),(26,I qp.length),(27,I n)],h++[.cells [I 0,I 0,.slice [],S em],.cells [I 0,I 0,.nils,.nils,.nils,.nils,S em,I 0],.cells [I 1,I 0,.own io qout.length,.own ir qr.length,.own ip qp.length,.own (h.length+3) n,S em,I qs],.arr 73 4 (((qp.take n).map (wrP qo)).map Pr.c)]⟩) trivial ((qwi E _ (p:=h.length+2) (j:=5) (t:=73) (sz:=4) (xs:=[I 1,I 0,.own io qout.length,.own ir qr.length,.own ip qp.length,.nils,S em,I qs]) ae rfl).trans ?_) ?_
 ·simp;exact(qzr E _).trans (Wk.mk bi af (by simp[hu,vf hu,go_sem];omega) (by simp[go_sem,gp];omega))
 intro n hn' _;have hw:=iv hn' aa;simp-dsimp[go_sem,hN];refine gy ?_ ?_<;>intro hc<;>simp at hc
 ·simp-dsimp[go_sem,hN,hc];refine kf 11 mixed ac ac ?_;simp-dsimp[go_sem,hN,gm,go,hw];refine⟨aa,aa,hc,?_⟩;rw[show(qp.map (Pr.c∘wrP qo)).take (n+1)=(qp.map (Pr.c∘wrP qo)).take n++[Pr.c (wrP qo qp[n])]by rw[eg qf2];simp];exact Wk.mk bi (by simp[go_sem,wrP]) (by simp[hu,vf hu,go_sem];omega) qk2
 ·simp-dsimp[go_sem,hN];have hnq:n=qp.length:=aa;subst hnq;rw[fo ae];refine⟨_,.refl _,h,by simp[go_sem,gi,gr,gp],hwk.app0 _,ct _,hu,?_,rfl⟩;simp[gi,gr,gp]
end
end Go.Proofs.YtbimdamecieomaaGreatDoor
set_option maxHeartbeats 2000000
namespace Go.Proofs.YtbimdamecieomaaGreatDoor
open Go Go.Abs Go.Cw Tryz
section
attribute [local go_sem] mC
theorem jlr(n:Nat)(l:List (g9×V)):(AObj.map (mb Cw.t7 l)).under n=true:=xde (f:=Cw.t7) (fun n a=>by simp[AV.under,V.c,nb]) n l
theorem xnu(n:Nat)(l:List (g9×V)):(∀(a b:AV),(a,b)∈mb Cw.t7 l→AV.under n a=true∧AV.under n b=true)=True:=by
 refine eq_true fun a b wt=>?_;obtain⟨s,x,rfl,rfl⟩:=xuj wt;simp[AV.under,V.c,nb]
theorem jnu(m:List (g9×V)):qeg [] [] m=m:=rfl
theorem jk5(st:List Pr)(ft:Foot)(fmt:Int→g9)(h A L:gz){g:Nat}{tb:AObj}{tV tS:Nat}(hg:h[g]?=some tb)(hu:hUnder h.length h=true)(a l:Nat)(hA:A.length=a)(hL:L.length=l)(uA:hUnder (h.length+(a+l+7)) A=true)(uL:hUnder (h.length+(a+l+7)) L=true) :
  MH (qm fmt st ft) tb tV tS g (h.length+(a+3)) (h.length+(a+1)) (h.length+(a+2)) (h.length+(a+l+4)) (h.length+(a+l+5)) (h.length+(a+l+6))
   (fun q=>h++(A++(.cells ft.c::.map (mb Cw.t7 q.vars)::.map (mb Cw.t7 q.own)::.cells (mC (qm fmt st ft) (h.length+(a+1)) (h.length+(a+2)) (h.length+(a+l+4)) (h.length+(a+l+5)) (h.length+(a+l+6)) q)::(L++[.arr tV 3 (q.out.map V.c),.uarr tS 1 (q.reads.map im),.uarr tS 1 (q.puts.map im)])))) (h.length+(a+l+7)):=by
 have x8:g<h.length:=(cq.1 hg).1;subst hA;subst hL;have e1:∀(X:gz) (k:Nat),(h++X)[h.length+k]?=X[k]?:=fun X k=>by rw[cy aa];congr 1;omega
 have e2:∀(X:gz) (k:Nat),(A++X)[A.length+k]?=X[k]?:=fun X k=>by rw[cy aa];congr 1;omega
 have e3:∀(X:gz) (k:Nat),(L++X)[L.length+k]?=X[k]?:=fun X k=>by rw[cy aa];congr 1;omega
 have s1:∀(X:gz) (k:Nat) (y:AObj),(h++X).set (h.length+k) y=h++X.set k y:=fun X k y=>by rw[fq _ _ aa];congr 2;omega
 have s2:∀(X:gz) (k:Nat) (y:AObj),(A++X).set (A.length+k) y=A++X.set k y:=fun X k y=>by rw[fq _ _ aa];congr 2;omega
 have s3:∀(X:gz) (k:Nat) (y:AObj),(L++X).set (L.length+k) y=L++X.set k y:=fun X k y=>by rw[fq _ _ aa];congr 2;omega
 have e4:∀(a b c d:AObj) (X:gz) (k:Nat),(a::b::c::d::(L++X))[L.length+4+k]?=X[k]?:=fun a b c d X k=>by
  rw[show L.length+4+k=(L.length+k)+1+1+1+1 by omega];simp only[qk9];exact e3 X k
 have s4:∀(a b c d y:AObj) (X:gz) (k:Nat),(a::b::c::d::(L++X)).set (L.length+4+k) y=a::b::c::d::(L++X.set k y):=fun a b c d y X k=>by
  rw[show L.length+4+k=(L.length+k)+1+1+1+1 by omega];simp only[List.set_cons_succ];rw[s3]
 have i0:h.length+(A.length+L.length+4)=h.length+(A.length+(L.length+4+0)):=aa;have i1:h.length+(A.length+L.length+5)=h.length+(A.length+(L.length+4+1)):=aa;have i2:h.length+(A.length+L.length+6)=h.length+(A.length+(L.length+4+2)):=aa;constructor
 case lg=>intro q;rw[cu x8];exact hg
 case len=>intro q;simp;omega
 case und =>
  intro q;rw[tn,ww (Nat.le_add_right _ _) hu,tn,uA];simp only[hUnder,jlr,tn,uL,fh,fl];simp[AObj.under,AV.under,nb,mC,Foot.c];omega
 case lm=>intro q;rw[e1,e2];rfl
 case lv=>intro q;rw[e1,e2];rfl
 case lo=>intro q;rw[e1,e2];rfl
 case lio=>intro q;rw[i0,e1,e2,e4];rfl
 case lir=>intro q;rw[i1,e1,e2,e4];rfl
 case lip=>intro q;rw[i2,e1,e2,e4];rfl
 case sm=>intro q no nr np s;rw[s1,s2];rfl
 case sv=>intro q x;rw[s1,s2];rfl
 case so=>intro q x;rw[s1,s2];rfl
 case sio=>intro q x;simp only[i0,s1,s2,s4];rfl
 case sir=>intro q x;simp only[i1,s1,s2,s4];rfl
 case sip=>intro q x;simp only[i2,s1,s2,s4];rfl
 all_goals omega
variable {C:Cfg} {tT:TypeId} {tx:Nat×Nat} {g m v o io ir ip:Nat} {K:MQ→gz} {n0:Nat}
theorem jj9(hF:C.fmt=jh)(hC:ur C)(p:Proc)(hG:∀x∈p.body,Cw.t8 x)(Y:MHs C tT tx g m v o io ir ip K n0)(s:MS)(hI:Cw.Inv 0 0 s){a b:Nat}(ha:∀q,(K q)[a]?=some (.cells [.ptr m 0]))(hb0:∀q,(K q)[b]?=some (.cells p.c)) :
  ACalls prog 92 [.ptr a 0,.ptr b 0] (K s.q) fun r h'=>r=nt (kn C p.body s).1∧h'=K (kn C p.body s).2.q:=by
 refine lw func92 ntmps92 rfl ac rfl fun E hN hh hu hb il kr=>?_;simp-dsimp[go_sem,hN,ha,hb0];refine it (qfe hF hC p.body hG Y s hI) ?_;rintro r h' ⟨rfl,rfl⟩;rcases kn C p.body s with⟨z|⟨⟩,s1⟩<;>simp-dsimp[go_sem,hN,nt]<;>exact⟨_,.refl _,K s1.q,af,ag,au,Y.und' _,aj,ah⟩
abbrev xf2:AObj:=.cells [I 0,I 0,.nils,.nils,.nils,.nils,S em,I 0]
def xap:Except Stop Unit→List AV
 | .ok _=>zs
 | .error z=>[I z.status,I z.code,.slice [],S z.miss]
def isE:Except Stop Unit→Bool
 | .ok _=>false
 | .error _=>true
@[simp] theorem jrm(H:gz)(x:Except Stop Unit):kc H (xap x)=xap x:=by cases x<;>rfl
@[simp] theorem jpq(n:Nat)(x:Except Stop Unit):nb n (xap x)=true:=by cases x<;>rfl
theorem xxs{a:AV}{f:FuncId}{caps:List AV}{h h1:gz}{x:Except Stop Unit}(hl:h1.length=h.length)(hu:hUnder h.length h1=true)(hc:∀H,kc H caps=caps)(hg:ACalls prog f caps (h++[.cells [I 0,I 0,.nils,S em],.cells [Bo false]]) fun r h'=>r=nt x∧h'=h1++[.cells [I 0,I 0,.nils,S em],.cells [Bo false]]) :
  ACalls prog 91 [a,.fn (.func f) [] caps] h fun r h'=>r=.ret (.tuple [.agg (xap x),Bo (isE x)])∧h'=h1:=by
 refine jfu a (g:=f) (first:=[]) (caps:=caps) (by rw[ej,hc];exact hg) ?_ ?_
 ·rintro r h' ⟨rfl,rfl⟩ _;have e1:(h1++[AObj.cells [I 0,I 0,.nils,S em],AObj.cells [Bo false]])[h.length]?=some (.cells [I 0,I 0,.nils,S em]):=qjn;have e2:(h1++[AObj.cells [I 0,I 0,.nils,S em],AObj.cells [Bo false]])[h.length+1]?=some (.cells [Bo false]):=qjn;have e3:(h1++[AObj.cells [I 0,I 0,.nils,S em],AObj.cells [Bo false]]).take h.length=h1:=qjn;refine⟨⟨_,e1,rfl⟩,⟨_,e2⟩,by rw[e3];exact hu,?_⟩;rw[e3];rcases x with z|u
  ·exact⟨rfl,rfl,qi2,rfl,rfl⟩
  ·exact⟨rfl,rfl⟩
 ·rintro h' st ⟨h1,_⟩ H;rcases x with z|u
  ·simp only[nt,qr2,AEnd.panic.injEq,AV.iface.injEq,AV.agg.injEq,true_and]at h1;subst h1;rfl
  ·cases h1
theorem jan{h:gz}(x:Except Stop Unit)(s:MS)(hm:h[m]?=some (.cells (mC C v o io ir ip s.q)))(hio:h[io]?=some (.arr 71 3 (s.out.map V.c)))(hir:h[ir]?=some (.arr 9 1 (s.reads.map im)))(hip:h[ip]?=some (.arr 9 1 (s.puts.map im)))
  (ho:h[o]?=some (.map (mb Cw.t7 s.own))) (hl:s.puts.length+1≤68719476736) :
  ACalls prog 90 [.ptr m 0,.agg (xap x),Bo (isE x)] h fun r h'=>r=.ret (.agg (qnf (x,s)).c)∧h'=h:=by
 rcases x with z|u
 ·exact xzv s.q hm hir hip rfl rfl z
 ·exact jif s.q hm hio hir hip ho rfl rfl rfl hl
theorem jno(p:Proc)(args:List V)(st:List Pr)(ft:Foot)(h:gz)(hg:h[g]?=some (uu tT tx))(hI:RunIn jh p args st) :
  ACalls prog 51 [.agg p.c,.slice (args.map V.c),.slice (st.map Pr.c),.agg ft.c] h fun r h'=>r=.ret (.agg (mz jh p args st ft).c)∧h'=h:=by
 refine lw func51 ntmps51 rfl ac rfl fun E hN hh hu hb il kr=>?_;simp[go_sem]at hb;simp-dsimp[go_sem,hN];refine ia (jk1 p) ?_;simp-dsimp[go_sem,hN];refine ka (xoj p args) ae ?_;simp-dsimp[go_sem,hN];refine ka (xm8 st) ae ?_;simp-dsimp[go_sem,hN];refine ka (jcq ft.all ft.reads ft.writes) ae ?_;simp-dsimp[go_sem,hN]
 repeat refine⟨ax,?_⟩
 refine gy ?_ ?_<;>intro h0<;>simp at h0
 ·have iz:¬vw p args st ft:=by rw[qci];grind
  rw[qeu iz];simp-dsimp[go_sem,hN];refine it (xzw _) ?_;rintro r h' ⟨rfl,rfl⟩;simp-dsimp[go_sem,hN];exact⟨_,.refl _,h,af,hwk.app0 _,ct _,hu,rfl,rfl⟩
 have jm:vw p args st ft:=by rw[qci];grind
 have qw:=(qci _ _ _ _).1 jm;have jr:=(xev qw.2.1).1;rw[qeo jm];simp-dsimp[go_sem,hN];refine it (jd7 st ft _) ?_;rintro r h' ⟨rfl,rfl⟩;simp-dsimp[go_sem,hN];have Y:=jk5 (tb:=uu tT tx) (tV:=71) (tS:=9) st ft jh h [.cells p.c,.cells ft.c,xf2] [.cells [.ptr (h.length+6) 0]] hg hu 3 1 rfl rfl (by simp[hUnder,AObj.under,AV.under,nb,Proc.c,Foot.c]) ay;simp only[qlg,ej,Nat.reduceAdd]at Y;refine pa (α:=List (g9×V)) p.params.length (fun n vs=>qeg (p.params.drop n) (args.drop n) vs=qeg p.params args []) (fun n vs=>⟨[(1,.slice (args.map V.c)),(4,.ptr h.length 0),(8,.ptr (h.length+2) 0),(9,.ptr (h.length+7) 0),(36,.slice (p.params.map Param.c)),(37,I p.params.length),(38,I n)],h++[.cells p.c,.cells ft.c,xf2,.cells ft.c,.map (mb Cw.t7 vs),.map (mb Cw.t7 []),.cells (mC (qm jh st ft) (h.length+4) (h.length+5) (h.length+8) (h.length+9) (h.length+10) ⟨vs,[],[],[],[],0,0,0,0⟩),.cells [.ptr (h.length+6) 0],.arr 71 3 [],.uarr 9 1 [],.uarr 9 1 []]⟩) [] ae ?_ ?_
 ·refine(qwi E _ (p:=h.length+6) (j:=8) (t:=71) (sz:=3) (xs:=[.slice (st.map Pr.c),Bo ft.all,.slice (ft.reads.map im),.slice (ft.writes.map im),.mapr (h.length+4),.mapr (h.length+5),I 0,I 0,.nils,.nils,.nils,.nils,S em,I 0]) ae rfl).trans ?_;simp;refine(xgp E _ (p:=h.length+6) (j:=9) (t:=9) (sz:=1) (xs:=[.slice (st.map Pr.c),Bo ft.all,.slice (ft.reads.map im),.slice (ft.writes.map im),.mapr (h.length+4),.mapr (h.length+5),I 0,I 0,.own (h.length+8) 0,.nils,.nils,.nils,S em,I 0]) ae rfl).trans ?_;simp;refine(xgp E _ (p:=h.length+6) (j:=10) (t:=9) (sz:=1) (xs:=[.slice (st.map Pr.c),Bo ft.all,.slice (ft.reads.map im),.slice (ft.writes.map im),.mapr (h.length+4),.mapr (h.length+5),I 0,I 0,.own (h.length+8) 0,.own (h.length+9) 0,.nils,.nils,S em,I 0]) ae rfl).trans ?_;simp[mb,qj];exact ic
 intro n vs hn mt;have hw:=iv hn hb.1.2.1.1;simp-dsimp[go_sem,hN];refine gy ?_ ?_<;>intro hc<;>simp at hc
 ·have ox:n<args.length:=aa;simp-dsimp[go_sem,hN,hc];refine kf 10 mixed ac ac ?_;simp-dsimp[go_sem,hN,hc,ox,hw];refine⟨js vs p.params[n].name args[n],?_,Wk.mk bi af (by simp[hu,vf hu,go_sem,xnu]) af⟩;rw[ji hc,ji ox,qeg]at mt;exact mt
 ·rw[cv hc,cv aa,jnu]at mt;subst mt;obtain⟨x,s1,hB⟩:∃x s1,kn (qm jh st ft) p.body (zq p args)=(x,s1):=⟨_,_,rfl⟩
  have hd:=(qzd (C:=qm jh st ft) (fun q hq=>hI.st q hq) p.body 1 (zq p args) (qxc qw.1) (qw7 qw.1 hI.body) (qz3 hI)).pu;rw[hB]at hd;have xp:=xt6 qw.1;have hlim:=xgo qw.1;simp only[ee,db]at hd;have Y2:=Y.ext [.cells [I 0,I 0,.nils,S em],.cells [Bo false]] ay;have hr:=jj9 (C:=qm jh st ft) rfl (fun q hq=>hI.st q hq) p (qw7 qw.1 hI.body) Y2 (zq p args) (qz3 hI) (a:=h.length+7) (b:=h.length) (by intro q;simp) (by intro q;simp);rw[hB]at hr;have jx:=xxs (a:=.ptr (h.length+6) 0) ae (by simp[tn,hu,ww,vf hu,go_sem,xnu,MS.q]) (fun H=>by simp[kc,AV.norm]) hr;simp-dsimp[go_sem,hN];refine xae 6 3 [0] mixed ac ?_;simp-dsimp[go_sem,hN];refine xaw jx ?_;simp-dsimp[go_sem,hN];obtain⟨Hd,hHd⟩:∃Hd:AObj→AObj→gz,∀u1 u2,Hd u1 u2=h++[.cells p.c,.cells ft.c,xf2,.cells ft.c,.map (mb Cw.t7 s1.vars),.map (mb Cw.t7 s1.own),.cells (mC (qm jh st ft) (h.length+4) (h.length+5) (h.length+8) (h.length+9) (h.length+10) s1.q),.cells [.ptr (h.length+6) 0],.arr 71 3 (s1.out.map V.c),u1,u2]:=⟨fun u1 u2=>_,fun _ _=>rfl⟩
  have oi:∀E,Wk E ⟨[],Hd (.uarr 9 1 (s1.reads.map im)) (.uarr 9 1 (s1.puts.map im))⟩ ⟨[],Hd (.arr 9 1 (s1.reads.map im)) (.arr 9 1 (s1.puts.map im))⟩:=fun E=>by
   have d1:=zt E ⟨[],Hd (.uarr 9 1 (s1.reads.map im)) (.uarr 9 1 (s1.puts.map im))⟩ (i:=h.length+9) (t:=9) (sz:=1) (rows:=s1.reads.map im) qg7;have d2:=zt E ⟨[],Hd (.arr 9 1 (s1.reads.map im)) (.uarr 9 1 (s1.puts.map im))⟩ (i:=h.length+10) (t:=9) (sz:=1) (rows:=s1.puts.map im) qg7;refine d1.trans ?_;have e1:(Hd (.uarr 9 1 (s1.reads.map im)) (.uarr 9 1 (s1.puts.map im))).set (h.length+9) (.arr 9 1 (s1.reads.map im))=Hd (.arr 9 1 (s1.reads.map im)) (.uarr 9 1 (s1.puts.map im)):=qg7;have e2:(Hd (.arr 9 1 (s1.reads.map im)) (.uarr 9 1 (s1.puts.map im))).set (h.length+10) (.arr 9 1 (s1.puts.map im))=Hd (.arr 9 1 (s1.reads.map im)) (.arr 9 1 (s1.puts.map im)):=qg7;rw[e2]at d2;rw[e1];exact d2
  have qvr:=jan (C:=qm jh st ft) (m:=h.length+6) (v:=h.length+4) (o:=h.length+5) (io:=h.length+8) (ir:=h.length+9) (ip:=h.length+10) (h:=Hd (.arr 9 1 (s1.reads.map im)) (.arr 9 1 (s1.puts.map im))) x s1 qg7 qg7 qg7 qg7 qg7 aa;have hfin2:=xhl oi qvr;rw[hHd,hHd]at hfin2;refine it hfin2 ?_;rintro r h' ⟨rfl,rfl⟩;simp-dsimp[go_sem,hN];rw[hB];exact⟨_,.refl _,h,af,hwk.app0 _,ct _,hu,rfl,rfl⟩
end
end Go.Proofs.YtbimdamecieomaaGreatDoor
