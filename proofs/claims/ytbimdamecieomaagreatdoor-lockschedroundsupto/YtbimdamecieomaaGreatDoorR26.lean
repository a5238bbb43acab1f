/- Part 26 of a proof. -/
import Derived.Test.YtbimdamecieomaaGreatDoorR18
import Derived.Test.YtbimdamecieomaaGreatDoorR25
set_option linter.all false
namespace Go.Cw
open Go Go.Abs
def v7(fs:List Foot)(order:List Int):Bool:=qrv order fs.length&&decide (xbe fs order=0)
theorem xh9(fs:List Foot)(i j:Nat):pk fs i j=pk fs j i:=by
 unfold pk;rcases fs[i]? with _|x<;>rcases fs[j]? with _|y<;>simp[xki]
theorem xcj{fs:List Foot}{order:List Int}:v7 fs order=true↔(order.length=fs.length∧okO fs.length [] order)∧∀a b,a<b→b<order.length→(order.getD a 0<order.getD b 0∨pk fs (order.getD a 0).toNat (order.getD b 0).toNat=false):=by
 unfold v7;rw[c0,decide_eq_true_eq,←qwz];exact and_congr_right fun h=>jis h
theorem getD_at{order:List Int}{a:Nat}(h:a<order.length):order.getD a 0=order[a]:=by rw[fg,da h];rfl
theorem xiv{fs:List Foot}{order:List Int}(h:v7 fs order=true):Leg fs (order.map Int.toNat)∧order.length=fs.length:=by
 obtain⟨⟨h1,h2,h3⟩,h4⟩:=xcj.1 h;simp only[ej]at h3;refine⟨?_,h1⟩;have ib:∀x∈order.map Int.toNat,x<fs.length:=fun x hx=>by
  obtain⟨k,hk,rfl⟩:=dk.1 hx;have:=h2 k hk;omega
 have ix:=xbl h3 ib av;have step:∀m,m≤order.length→Leg fs ((order.map Int.toNat).take m):=fun m=>by
  induction m with
  |zero=>intro _;simpa using Leg.nil
  |succ m ih =>
   intro hm;have sp:m<(order.map Int.toNat).length:=by rw[ew];omega
   have hmo:m<order.length:=aa;rw[eg sp];refine .snoc (ih aa) (ib _ (c9 sp)) (fun qvu=>?_) fun i hi hc=>?_
   ·obtain⟨p,hp,e⟩:=qme.1 qvu;rw[du]at hp;rw[qmq]at e;have:=(List.getElem_inj h3).1 e;omega
   ·obtain⟨p,hp,e⟩:=qme.1 (ix i (by have:=ib _ (c9 sp);omega));have hpo:p<order.length:=qha;have ii:p≠m:=fun g=>by subst g;rw[e]at hi;omega
    by_cases hpm:p<m
    ·rw[qme];exact⟨p,qfn,by rw[qmq];exact e⟩
    ·have:=h4 m p aa hpo;rw[getD_at hmo,getD_at hpo]at this;simp only[List.getElem_map]at e hi hc;have g1:=h2 _ (c9 hmo);have g2:=h2 _ (c9 hpo);rcases this with g|g
     ·omega
     ·rw[e,xh9,hc]at g;cases g
 have:=step order.length (ct _)
 rwa [fo ae]at this
structure YH(P:Program)(l:Nat)(HF:Nat→gz)(HX:Nat→Ex→gz)(stop:Ex→Bool)(n0:Nat):Prop where
 len:∀k,(HF k).length=n0
 lenX:∀k x,(HX k x).length=n0
 und:∀k,hUnder n0 (HF k)=true
 undX:∀k x,hUnder n0 (HX k x)=true
 y:∀k (x:Ex) (L:gz),AYield P l [.agg x.x] (HF k++L) fun r h'=>(stop x=true→r=.ret (Bo false)∧h'=HX k x++L)∧(stop x=false→r=.ret (Bo true)∧h'=HF (k+1)++L)
theorem YH.ext{P:Program}{l:Nat}{HF:Nat→gz}{HX:Nat→Ex→gz}{stop:Ex→Bool}{n0:Nat}(Y:YH P l HF HX stop n0)(L:gz)(hL:hUnder (n0+L.length) L=true):YH P l (fun k=>HF k++L) (fun k x=>HX k x++L) stop (n0+L.length) where
 len:=fun k=>by rw[cz,Y.len]
 lenX:=fun k x=>by rw[cz,Y.lenX]
 und:=fun k=>by rw[tn,ww aa (Y.und k),hL];rfl
 undX:=fun k x=>by rw[tn,ww aa (Y.undX k x),hL];rfl
 y:=fun k x L'=>by simpa[dr]using Y.y k x (L++L')
def yl(HF:Nat→gz)(HX:Nat→Ex→gz)(r:Nat×Option Ex):gz:=match r.2 with
 |none=>HF r.1
 |some e=>HX r.1 e
def gM(ms:List (Option Nat)):gz:=ms.map fun|none=>.none|some D=>sh D
def dM(ms:List (Option Nat)):List Deferred:=(ms.filterMap id).reverse.map qqm
def qod:Nat→List (Option Nat)→List (Nat×Nat)
 |_,[]=>[]
 |k,none::l=>qod (k+1) l
 |k,some D::l=>qod (k+1) l++[(k,D)]
theorem xdh:∀(ms:List (Option Nat)) (k:Nat),(qod k ms).map (fun p=>qqm p.2)=dM ms
 | [],_=>rfl
 |none::l,k=>by simp only[qod,xdh l];rfl
 |some D::l,k=>by simp[qod,xdh l,dM]
theorem qwv:∀(ms:List (Option Nat)) (k:Nat) (p:Nat×Nat),p∈qod k ms→k≤p.1∧p.1<k+ms.length∧(gM ms)[p.1 - k]?=some (sh p.2)
 | [],_,p,h=>by simp[qod]at h
 |none::l,k,p,h=>by
  obtain⟨h1,h2,h3⟩:=qwv l (k+1) p h;refine⟨aa,am,?_⟩;rw[show p.1 - k=(p.1 - (k+1))+1 by omega];exact h3
 |some D::l,k,p,h=>by
  rw[qod,dt]at h;rcases h with h|h
  ·obtain⟨h1,h2,h3⟩:=qwv l (k+1) p h;refine⟨aa,am,?_⟩;rw[show p.1 - k=(p.1 - (k+1))+1 by omega];exact h3
  ·simp at h;subst h;refine⟨ae,ae,?_⟩;simp[gM]
theorem xej:∀(ms:List (Option Nat)) (k:Nat),((qod k ms).map (·.1)).Nodup
 | [],_=>qmg
 |none::l,k=>xej l (k+1)
 |some D::l,k=>by
  rw[qod,dz,qle];refine⟨xej l (k+1),ae,fun a ha b hb=>?_⟩;rw[dk]at ha;obtain⟨p,hp,rfl⟩:=ha;have:=(qwv l (k+1) p hp).1;simp at hb;omega
theorem xko:∀(l:List (Nat×Nat)) (A Z:gz),(∀p,p∈l→A.length≤p.1)→∃Z',qsg l (A++Z)=A++Z'
 | [],A,Z,_=>⟨Z,rfl⟩
 |p::l,A,Z,h=>by
  rw[qsg,fq _ _ (h p ae)];exact xko l A _ fun q hq=>h q cn
theorem xy9(a b:List (Option Nat)):gM (a++b)=gM a++gM b:=by simp[gM]
theorem xyu(ms:List (Option Nat))(D:Nat):dM (ms++[none,none,some D])=qqm D::dM ms:=by simp[dM,List.filterMap_append]
theorem xr0(ms:List (Option Nat))(m:Nat):hUnder m (gM ms)=true:=by
 rw[qcb];intro o ho;simp only[gM,dk]at ho;obtain⟨x,_,rfl⟩:=ho;cases x<;>rfl
section
variable {P:Program} {E:Ent} {p:Tmp} {mf body:Code}
def qps(E:Ent)(e:Env)(p:Tmp)(mf body:Code)(l D:Nat)(fn:FuncId)(st:LoopState)(pe:Option Code):AObj:=.raw l (vy st pe fn #[p] mf body D) (slots E.N e)
def xqw(E:Ent)(idx:Nat)(r0 rb rd:AObj)(R:AEnd→gz→Prop):AExit→List Deferred→Env→Prop
 | .normal,_,e=>e.h[idx]?=some rb∧∃h',Wk E ⟨[],e.h.set idx r0⟩ ⟨[],h'⟩∧R (.ret (.val (.bool true))) h'
 | .ret,_,e=>e.h[idx]?=some rb∧∃h',Wk E ⟨[],e.h.set idx rd⟩ ⟨[],h'⟩∧R (.ret (.val (.bool false))) h'
 |_,_,_=>False
theorem xy0{g:Operand}{gf:FuncId}{caps:List AV}{Q:AExit→List Deferred→Env→Prop}{ds:List Deferred}{e:Env}(hg:e.get g=.fn (.func gf) [] caps)(hcaps:∀H,kc H caps=caps)
  (B:Nat→gz) (X:Nat→Ex→gz) (stop:Ex→Bool) (xs:List Ex) (k n0:Nat) (hB:e.h=B k) (len:∀j,(B j).length=n0) (lenX:∀j x,(X j x).length=n0) (und:∀j,hUnder n0 (B j)=true) (undX:∀j x,hUnder n0 (X j x)=true)
  (pn:nb n0 (slots E.N e)=true) (hp:p<E.N)
  (hit:∀(l:Nat) (L:gz) (HX:Nat→Ex→gz) (n1:Nat),YH P l (fun j=>B j++L) HX stop n1→ACalls P gf ([.fn (.yield l) [] []]++caps) (B k++L) fun r h'=>r=.ret (.tuple [])∧h'=yl (fun j=>B j++L) HX (scan stop xs k))
  (hround:∀(E':Ent) (l D j:Nat) (x:Ex) (L:gz) (r0 rb rd:AObj),(∀m,n0≤m→r0.under m=true∧rb.under m=true∧rd.under m=true)→E'.N=E.N→E'.h=B j++sh D::r0::L→hUnder E'.h.length E'.h=true→(AV.agg x.x).bd →
   sk P E' (some l) mf (qzk (fun ds e1=>ds=[]∧e1.h[n0+1]?=some r0 ∧
    sk P E' (some l) body (xqw E' (n0+1) r0 rb rd fun r h' =>
     (stop x=true→r=.ret (Bo false)∧h'=X j x++sh D::rd::L)∧(stop x=false→r=.ret (Bo true)∧h'=B (j+1)++sh D::r0::L))
     [] ⟨e1.t,e1.h.set (n0+1) rb⟩) (fun _ _ _=>False)) [] ⟨(p,.agg x.x)::qes 0 (slots E.N e),E'.h⟩)
  (hdone:∀(j D:Nat) (o:AObj),scan stop xs k=(j,none)→Q .normal (qqm D::ds) ⟨e.t,B j++[sh D,o]⟩)
  (hstop:∀(j:Nat) (x:Ex) (D:Nat) (o:AObj),scan stop xs k=(j,some x)→Q .ret (qqm D::ds) ⟨e.t,X j x++[sh D,o]⟩) :
  sk P E none (.rangeFunc g #[p] mf body) Q ds e:=by
 refine jij hg fun fn D l=>?_;have hL:∀st pe,hUnder (n0+2) [sh D,qps E e p mf body l D fn st pe]=true:=fun st pe=>by
  simp only[hUnder,sh,qps,AObj.under,nb,fh,fl];exact qct aa _ pn
 have xp:kc (e.h++[sh D,.raw l (vy .ready none fn #[p] mf body D) (slots E.N e)]) ([.fn (.yield l) [] []]++caps)=[.fn (.yield l) [] []]++caps:=by
  have:∀(a b:List AV) H,kc H (a++b)=kc H a++kc H b:=fun a b H=>by
   induction a with
   |nil=>rfl
   |cons x a ih=>simp[kc,ih]
  rw[this,hcaps];simp[kc,AV.norm]
 rw[xp,hB];have Y:YH P l (fun j=>B j++[sh D,qps E e p mf body l D fn .ready none]) (fun j x=>X j x++[sh D,qps E e p mf body l D fn .done (some .ret)]) stop (n0+2):={
  len:=fun j=>by simp[len]
  lenX:=fun j x=>by simp[lenX]
  und:=fun j=>by rw[tn,ww aa (und j),hL];rfl
  undX:=fun j x=>by rw[tn,ww aa (undX j x),hL];rfl
  y:=fun j x L=>by
   have hidx:(B j++[sh D,qps E e p mf body l D fn .ready none]++L)[n0+1]?=some (.raw l (vy .ready none fn #[p] mf body D) (slots E.N e)):=by
    rw[dr,cy (by rw[len];omega),len,show n0+1 - n0=1 by omega];rfl
   refine jex hidx (by simpa[slots]using hp) fun E' hN hh hu hbd _=>?_;have hN':E'.N=E.N:=by rw[hN];simp[slots]
   have hh':E'.h=B j++sh D::qps E e p mf body l D fn .ready none::L:=by rw[hh];simp
   have hun:∀st pe m,n0≤m→(qps E e p mf body l D fn st pe).under m=true:=fun st pe m hm=>qct hm _ pn;have:=hround E' l D j x L _ (qps E e p mf body l D fn .busy none) (qps E e p mf body l D fn .done (some .ret)) (fun m hm=>⟨hun _ _ m hm,hun _ _ m hm,hun _ _ m hm⟩) hN' hh' (by rw[hh];exact hu) hbd;have hJ:∀R,xqw E' (n0+1) (qps E e p mf body l D fn .ready none) (qps E e p mf body l D fn .busy none) (qps E e p mf body l D fn .done (some .ret)) R=xqi E' (n0+1) l fn #[p] mf body D (slots E.N e) R:=fun R=>by
    funext x ds e;cases x<;>rfl
   rw[hJ,hh']at this;simpa[qps]using this }
 refine(hit l [sh D,qps E e p mf body l D fn .ready none] _ (n0+2) Y).mono ?_;rintro r h' ⟨rfl,rfl⟩;refine⟨⟨_,rfl⟩,?_⟩;rcases hsc:scan stop xs k with⟨j,_|x⟩
 ·refine⟨.ready,none,ae,?_,?_⟩
  ·simp only[yl];rw[cy (by rw[len,len];omega),len,len,show n0+1 - n0=1 by omega];rfl
  ·simp only[yl];rw[fq _ _ (by rw[len,len];omega),len,len,show n0+1 - n0=1 by omega];exact hdone j D _ hsc
 ·refine⟨.done,some .ret,ae,?_,?_⟩
  ·simp only[yl];rw[cy (by rw[len,lenX];omega),len,lenX,show n0+1 - n0=1 by omega];rfl
  ·simp only[yl];rw[fq _ _ (by rw[len,lenX];omega),len,lenX,show n0+1 - n0=1 by omega];exact xqj (hstop j x D _ hsc)
end
def yy(k:g9)(r:LReq):Bool→List LQ→List LQ
 |d,[]=>if d then []else [⟨k,[r]⟩]
 |d,q::l=>(if !d&&ju k q.key then [⟨k,[r]⟩]else [])++(if q.key=k then [⟨k,q.reqs++[r]⟩]else [q])++yy k r (d||ju k q.key||decide (q.key=k)) l
theorem xgw{k:g9}{r:LReq}:∀{l:List LQ},(∀q∈l,q.key≠k)→yy k r true l=l
 | [],_=>rfl
 |q::l,h=>by
  rw[yy,if_neg (h q ae)];simp only[Bool.not_true,qlu,fw,if_false,ej,Bool.true_or];rw[xgw fun x hx=>h x bt];rfl
theorem xoo{k:g9}{r:LReq}:∀{l:List LQ},jp (ko l)→yy k r false l=mp k r l
 | [],_=>rfl
 |q::l,h=>by
  simp only[c8]at h;obtain⟨h1,h2⟩:=ef.1 h;rw[yy,mp];by_cases hq:ju q.key k=true
  ·rw[if_pos hq];have e1:ju k q.key=false:=xf5 hq;have e2:¬q.key=k:=qtj hq;rw[if_neg e2,e1];simp only[Bool.not_false,fh,fw,if_false,ej,qlw,decide_eq_false e2];rw[xoo h2];rfl
  ·rw[if_neg hq];by_cases e2:q.key=k
   ·rw[if_pos e2,if_pos e2];have e1:ju k q.key=false:=by rw[e2];exact qbx _
    rw[e1];simp only[Bool.not_false,fh,fw,if_false,ej,qlw,decide_eq_true e2];rw[xgw fun x hx=>fun e=>by
     have:=h1 x.key (dk.2 ⟨x,hx,rfl⟩);rw[e,e2,qbx]at this;cases this]
    rfl
   ·rw[if_neg e2,if_neg e2];have e1:ju k q.key=true:=by
     rcases gn (ju k q.key)with g|g
     ·exact g
     ·exact(e2 (qv9 hq qhw)).elim
    rw[e1];simp only[Bool.not_false,fh,if_true,Bool.or_true,Bool.true_or];rw[xgw fun x hx=>fun e=>by
     have:=h1 x.key (dk.2 ⟨x,hx,rfl⟩);rw[e]at this;exact hq this]
    rfl
theorem xh6{k:g9}{r:LReq}:∀(d:Bool) (l:List LQ),(yy k r d l).length≤l.length+if d then 0 else 1
 |d,[]=>by cases d<;>simp[yy]
 |d,q::l=>by
  rw[yy];have ih:=fun b=>xh6 (k:=k) (r:=r) b l;have i1:=ih true;have i2:=ih false;simp only[if_true,fw,if_false]at i1 i2;cases d<;>by_cases h1:ju k q.key=true<;>by_cases h2:q.key=k<;>simp[h1,h2,qbx]<;>omega
def qsu(k:g9):List g9→List g9
 | []=>[k]
 |x::l=>if ju x k=true then x::qsu k l else if x=k then x::l else k::x::l
theorem xu4(k:g9):∀l:List g9,(if l[jv k l]?=some k then l else l.take (jv k l)++k::l.drop (jv k l))=qsu k l
 | []=>by simp[jv,qsu]
 |x::l=>by
  have ih:=xu4 k l;rw[qsu,jv];by_cases h:ju x k=true
  ·rw[if_pos h,if_pos h,←ih];simp only[qk9,qlc,List.drop_succ_cons];split<;>rfl
  ·rw[if_neg h,if_neg h];simp only[List.getElem?_cons_zero,d7,ql3,List.drop_zero,ej]
theorem xhb{k x:g9}:∀{l:List g9},x∈qsu k l↔x=k∨x∈l
 | []=>by simp[qsu]
 |y::l=>by
  rw[qsu];split
  ·simp only[cw,xhb (l:=l)];constructor
   ·rintro(h|h|h)<;>simp[h]
   ·rintro(h|h|h)<;>simp[h]
  ·split
   ·rename_i h;subst h;simp only[cw];constructor
    ·rintro(h|h)<;>simp[h]
    ·rintro(h|h|h)<;>simp[h]
   ·simp only[cw]
theorem xvl{k:g9}:∀{l:List g9},jp l→jp (qsu k l)
 | [],_=>by simp[qsu,jp]
 |y::l,h=>by
  obtain⟨h1,h2⟩:=ef.1 h;rw[qsu];split
  ·rename_i h3;refine ef.2 ⟨fun x hx=>?_,xvl h2⟩;rcases xhb.1 hx with rfl|hx
   ·exact h3
   ·exact h1 x hx
  ·rename_i h3;split
   ·exact h
   ·rename_i h4;have h5:ju k y=true:=by
     rcases gn (ju k y)with g|g
     ·exact g
     ·exact(h4 (qv9 h3 qhw)).elim
    refine ef.2 ⟨fun x hx=>?_,h⟩;rcases cw.1 hx with rfl|hx
    ·exact h5
    ·exact qdz h5 (h1 x hx)
theorem xlf{α:Type}(q:α→Bool):∀(l:List α) (n m:Nat),pp q n l=((n+m:Nat):Int)→l.takeWhile (fun x=>!q x)=l.take m
 | [],n,m,h=>by simp
 |x::l,n,m,h=>by
  rw[pp]at h;by_cases hx:q x=true
  ·rw[if_pos hx]at h;have:m=0:=aa;subst this;simp[hx]
  ·rw[if_neg hx]at h;cases m with
   |zero =>
    exfalso;rcases xir q l (n+1)with⟨h1,_⟩|⟨k,_,h1,_⟩
    ·omega
    ·omega
   |succ m =>
    rw[qlc,List.takeWhile_cons_of_pos qj4,xlf q l (n+1) m (by rw[h];congr 1;omega)]
theorem xdw(t:Int)(l:List LReq):(ni (fun x:LReq=>decide (x.t=t)) l = -1∧rh t l=[])∨∃(m:Nat) (hm:m<l.length),ni (fun x:LReq=>decide (x.t=t)) l=(m:Int)∧rh t l=((l.take m).filter fun x=>x.w||l[m].w).map (·.t):=by
 rcases qzt (fun x:LReq=>decide (x.t=t)) l with⟨h1,h2⟩|⟨m,hm,h1,h2⟩
 ·exact .inl ⟨h1,by unfold rh;rw[h2]⟩
 ·refine .inr ⟨m,hm,h1,?_⟩;unfold rh;rw[h2];simp only;rw[xlf (fun x:LReq=>decide (x.t=t)) l 0 m (by rw[db];exact h1)]
theorem xdg(t:Int)(l:List LReq):(rh t l).length≤l.length:=by
 rcases xdw t l with⟨_,h⟩|⟨m,hm,_,h⟩
 ·rw[h];exact di _
 ·rw[h,ew];exact d9 (qlf _ _) qfn
theorem xke{α β:Type}{f g:β→α→β}:∀(l:List α) (b:β),(∀x∈l,∀c,f c x=g c x)→l.foldl f b=l.foldl g b
 | [],_,_=>rfl
 |x::l,b,h=>by
  rw[fu,fu,h x ae];exact xke l _ fun y hy=>h y cm
theorem xhg{l:List g9}(h:jp l):l.Nodup:=h.imp fun h=>qtj h
theorem xau{f:Foot}(h:my f.all f.reads f.writes=true):jp f.reads∧jp f.writes∧(∀k∈f.reads,rk k=true)∧(∀k∈f.writes,rk k=true)∧f.reads.length≤64∧f.writes.length≤64∧(f.all=true→f.reads=[]∧f.writes=[]):=by
 obtain⟨a,r,w⟩:=f;unfold my at h;cases a with
 |true =>
  simp only[if_true,c0,decide_eq_true_eq]at h;obtain⟨h1,h2⟩:=h;have h1:r=[]:=fk h1;have h2:w=[]:=fk h2;subst h1 h2;simp[jp]
 |false =>
  simp only[fw,if_false,c0,decide_eq_true_eq]at h;obtain⟨⟨h1,h2⟩,h3,h4⟩:=h;obtain⟨r1,r2,_⟩:=(xao _ _).1 h1;obtain⟨w1,w2,_⟩:=(xao _ _).1 h3;exact⟨r2,w2,r1,w1,cc,cc,fun h=>by cases h⟩
def qyj(f:Foot):List g9:=f.writes++f.reads.filter fun k=>!jk f.writes k
theorem jgo{f:Foot}(h:my f.all f.reads f.writes=true):(qyj f).Nodup:=by
 obtain⟨h1,h2,_⟩:=xau h;refine qle.2 ⟨xhg h2,xhg (h1.filter _),fun a ha b hb e=>?_⟩;subst e;have:=(fe.1 hb).2;rw[ux.2 ha]at this;cases this
theorem jhy{f:Foot}{k:g9}:k∈qyj f↔uk f k=true:=by
 unfold qyj uk;rw[dt,fe,fv,ux,ux];by_cases h:k∈f.writes
 ·simp[h]
 ·have:jk f.writes k=false:=Bool.eq_false_iff.2 fun e=>h (ux.1 e);simp[h,this]
theorem jb2{f:Foot}(h:my f.all f.reads f.writes=true):(qyj f).length≤128:=by
 obtain⟨_,_,_,_,h1,h2,_⟩:=xau h;unfold qyj;rw[cz];have:=qlf (fun k=>!jk f.writes k) f.reads;omega
def qqj(n:Int)(f:Foot)(qs:List LQ):List LQ:=f.reads.foldl (fun l k=>if jk f.writes k=true then l else mp k ⟨n,false⟩ l) (f.writes.foldl (fun l k=>mp k ⟨n,true⟩ l) qs)
theorem xw8(n:Int)(f:Foot)(qs:List LQ):qqj n f qs=qru (fun k=>⟨n,jk f.writes k⟩) (qyj f) qs:=by
 unfold qqj qru qyj;rw[ql0,List.foldl_filter];have e1:f.writes.foldl (fun l k=>mp k ⟨n,true⟩ l) qs=f.writes.foldl (fun l k=>mp k ⟨n,jk f.writes k⟩ l) qs:=xke _ _ fun k hk c=>by rw[ux.2 hk]
 rw[e1];refine xke _ _ fun k hk c=>?_;rcases h:jk f.writes k with _|_<;>simp[h]
def qpt(n:Int)(w:List g9)(ks:List g9)(qs:List LQ):List LQ:=ks.foldl (fun l k=>yy k ⟨n,jk w k⟩ false l) qs
theorem xq3{n:Int}{w:List g9}:∀(ks:List g9) (qs:List LQ),jp (ko qs)→qpt n w ks qs=qru (fun k=>⟨n,jk w k⟩) ks qs
 | [],qs,_=>rfl
 |k::ks,qs,h=>by
  have e:qpt n w (k::ks) qs=qpt n w ks (yy k ⟨n,jk w k⟩ false qs):=rfl;rw[e,xoo h,xq3 ks _ (qwo h)];rfl
def qot(k:g9)(l:List g9):List g9:=if l[jv k l]?=some k then l else l.take (jv k l)++k::l.drop (jv k l)
theorem xwz(k:g9)(l:List g9):qot k l=qsu k l:=xu4 k l
def qe(ks l:List g9):List g9:=ks.foldl (fun l k=>qot k l) l
theorem xmc{x:g9}:∀(ks l:List g9),x∈qe ks l↔x∈ks∨x∈l
 | [],l=>by simp[qe]
 |k::ks,l=>by
  have e:qe (k::ks) l=qe ks (qot k l):=rfl;rw[e,xmc ks,xwz,xhb,cw];constructor
  ·rintro(h|h|h)<;>simp[h]
  ·rintro((h|h)|h)<;>simp[h]
theorem xkw:∀(ks l:List g9),jp l→jp (qe ks l)
 | [],l,h=>h
 |k::ks,l,h=>by
  have e:qe (k::ks) l=qe ks (qot k l):=rfl;rw[e,xwz];exact xkw ks _ (xvl h)
abbrev xas(f:Foot):List g9:=qe f.writes (qe f.reads [])
theorem jf2(f:Foot):(xas f).Nodup:=xhg (xkw _ _ (xkw _ _ List.Pairwise.nil))
theorem jn5{f:Foot}{k:g9}:k∈xas f↔uk f k=true:=by
 unfold uk;rw[xmc,xmc,fv,ux,ux];simp
section
variable {fs:Nat→Foot} {R:List Nat} {T:LT}
theorem xnb(h:TabOk fs R T){n:Nat}(hf:my (fs n).all (fs n).reads (fs n).writes=true):TabOk fs (R++[n]) ⟨T.glob++[⟨(n:Int),(fs n).all⟩],qqj n (fs n) T.qs⟩:=by
 rw[xw8];exact xov h (jgo hf) fun k=>jhy
theorem jdl(h:TabOk fs R T){n:Nat}:qpt n (fs n).writes (xas (fs n)) T.qs=qru (fun k=>⟨(n:Int),jk (fs n).writes k⟩) (xas (fs n)) T.qs:=xq3 _ _ h.asc
theorem jbh(h:TabOk fs R T){n:Nat}(hf:my (fs n).all (fs n).reads (fs n).writes=true):qpt n (fs n).writes (xas (fs n)) T.qs=qqj n (fs n) T.qs:=by
 have h1:=xnb h hf;have h2:=xov h (jf2 (fs n)) fun k=>jn5 (f:=fs n) (k:=k);rw[←jdl h]at h2;exact congrArg LT.qs (jea h2 h1)
theorem xkb(w:Nat→Bool):∀(R:List Nat) (p:Option Int),R.Pairwise (· < ·)→(∀i∈R,∀x,p=some x→x<(i:Int))→yt p (R.map fun (i:Nat)=>⟨(i:Int),w i⟩)=true
 | [],_,_,_=>rfl
 |i::R,p,h,hp=>by
  obtain⟨h1,h2⟩:=ef.1 h;have ih:=xkb w R (some (i:Int)) h2 fun j hj x hx=>by cases hx;have:=h1 j hj;omega
  rw[c8,yt,ih,fl,c0];refine⟨ae,?_⟩;cases p with
  |none=>rfl
  |some x=>exact decide_eq_true (hp i ae x rfl)
theorem xm6(w:Nat→Bool){i:Nat}:∀(R:List Nat),i∈R→w i=false→y4 (R.map fun (j:Nat)=>⟨(j:Int),w j⟩) (i:Int)=true
 | [],h,_=>by cases h
 |j::R,h,hw=>by
  by_cases e:j=i
  ·subst e;unfold y4;rw[c8,List.find?_cons_of_pos ae];simp[hw]
  ·have e':¬(j:Int)=(i:Int):=aa;have hm:i∈R:=(cw.1 h).resolve_left fun g=>e g.symm;have ih:=xm6 w R hm hw;unfold y4 at ih⊢;rw[c8,List.find?_cons_of_neg (by simp[e'])];exact ih
theorem xsr{g:List LReq}:∀(l:List LQ) (k:Option g9),jp (ko l)→(∀p,k=some p→∀x∈ko l,ju p x=true)→(∀q∈l,rk q.key=true∧q.reqs≠[]∧yt none q.reqs=true∧∀r∈q.reqs,y4 g r.t=true)→yd g k l=true
 | [],_,_,_,_=>rfl
 |q::l,k,h,hk,hq=>by
  obtain⟨h1,h2⟩:=ef.1 h;obtain⟨q1,q2,q3,q4⟩:=hq q ae;have ih:=xsr l (some q.key) h2 (fun p hp x hx=>by cases hp;exact h1 x hx) fun x hx=>hq x bt;have h5:after k q.key=true:=by
   cases k with
   |none=>rfl
   |some p=>exact hk p rfl _ ae
  have h6:q.reqs.isEmpty=false:=by
   rcases e:q.reqs with _|⟨x,m⟩
   ·exact(q2 e).elim
   ·rfl
  rw[yd,q1,h5,h6,q3,ih,dw.2 q4];rfl
theorem jlb(h:TabOk fs R T)(hR:R.Pairwise (· < ·))(hf:∀i∈R,my (fs i).all (fs i).reads (fs i).writes=true):zf T=true:=by
 unfold zf;rw[c0];constructor
 ·rw[h.glob];exact xkb (fun i=>(fs i).all) R none hR fun _ _ _ e=>by cases e
 ·refine xsr T.qs none h.asc (fun _ e=>by cases e) fun q hq=>?_;obtain⟨e1,e2⟩:=(h.mem q).1 hq;have hin:∀i∈R,uk (fs i) q.key=true→rk q.key=true∧(fs i).all=false:=fun i hi hh=>by
   obtain⟨_,_,f3,f4,_,_,f7⟩:=xau (hf i hi);unfold uk at hh;rw[fv,ux,ux]at hh;refine⟨hh.elim (f4 _) (f3 _),?_⟩;rcases ha:(fs i).all with _|_
   ·rfl
   ·obtain⟨g1,g2⟩:=f7 ha;rw[g1,g2]at hh;simp at hh
  have qvu:∀r∈q.reqs,∃i∈R,uk (fs i) q.key=true∧r.t=(i:Int):=fun r hr=>by
   rw[e1]at hr;unfold rq at hr;obtain⟨i,hi,rfl⟩:=dk.1 hr;obtain⟨a,b⟩:=fe.1 hi;exact⟨i,a,b,rfl⟩
  refine⟨?_,e2,?_,fun r hr=>?_⟩
  ·obtain⟨r,hr⟩:=List.exists_mem_of_ne_nil _ e2;obtain⟨i,a,b,_⟩:=qvu r hr;exact(hin i a b).1
  ·rw[e1];exact xkb (fun i=>jk (fs i).writes q.key) _ none (hR.filter _) fun _ _ _ e=>by cases e
  ·obtain⟨i,a,b,c⟩:=qvu r hr;rw[c,h.glob];exact xm6 (fun i=>(fs i).all) R a (hin i a b).2
abbrev qa(qs:List LQ):Nat:=(qs.map fun q=>q.reqs.length).sum
theorem xte{k:g9}{r:LReq}:∀(l:List LQ),qa (mp k r l)=qa l+1
 | []=>by simp[mp,qa]
 |q::l=>by
  have ih:=xte (k:=k) (r:=r) l;rw[mp];split
  ·simp only[qa,c8,qlv]at ih⊢;omega
  ·split
   ·simp only[qa,c8,qlv,cz,f8];omega
   ·simp only[qa,c8,qlv,f8];omega
theorem xux{r:g9→LReq}:∀(ks:List g9) (l:List LQ),qa (qru r ks l)=qa l+ks.length
 | [],l=>rfl
 |k::ks,l=>by
  have e:qru r (k::ks) l=qru r ks (mp k (r k) l):=rfl;rw[e,xux ks,xte,d5];omega
theorem ji6(t:Int)(l:List LReq):(re t l).length≤l.length:=qlf _ _
theorem xnx(t:Int):∀(l:List LQ),qa (ud t l)≤qa l
 | []=>ct _
 |q::l=>by
  have ih:=xnx t l;have h:=ji6 t q.reqs;rw[ud];split
  ·simp only[qa,c8,qlv]at ih⊢;omega
  ·simp only[qa,c8,qlv]at ih⊢;omega
theorem xnq:∀{l:List LQ} {q:LQ},q∈l→q.reqs.length≤qa l
 |x::l,q,h=>by
  simp only[qa,c8,qlv];rcases cw.1 h with rfl|h
  ·omega
  ·have:=xnq h;simp only[qa]at this;omega
theorem xsy:∀{l:List LQ},(∀q∈l,q.reqs≠[])→l.length≤qa l
 | [],_=>ct _
 |x::l,h=>by
  have ih:=xsy fun q hq=>h q (List.mem_cons_of_mem _ hq);have h1:=List.length_pos_iff.2 (h x ae);simp only[qa,c8,qlv,d5]at ih⊢;omega
theorem xk4(t:Int):∀(qs:List LQ),(qs.flatMap fun q=>rh t q.reqs).length≤qa qs
 | []=>ct _
 |q::l=>by
  have h1:=xdg t q.reqs;have h2:=xk4 t l;simp only[List.flatMap_cons,cz,qa,c8,qlv]at h2⊢;omega
theorem xn1{qs:List LQ}{n:Nat}(h:n<qs.length):qa (qs.take n)+qs[n].reqs.length≤qa qs:=by
 have h1:qs=qs.take n++qs[n]::qs.drop (n+1):=by rw[←ql1 h,qlh]
 have h2:qa qs=qa (qs.take n++qs[n]::qs.drop (n+1)):=by rw[←h1]
 rw[h2];simp only[qa,dz,c8,List.sum_append,qlv];omega
theorem xmr(h:TabOk fs R T)(n:Nat):(n∉R→ni (fun x:LReq=>decide (x.t=(n:Int))) T.glob = -1)∧(n∈R→0≤ni (fun x:LReq=>decide (x.t=(n:Int))) T.glob):=by
 rw[h.glob];rcases qzt (fun x:LReq=>decide (x.t=(n:Int))) (R.map fun (i:Nat)=>⟨(i:Int),(fs i).all⟩)with⟨h1,h2⟩|⟨m,hm,h1,h2⟩
 ·refine⟨fun _=>h1,fun hn=>?_⟩;have:=qms.1 h2 _ (dk.2 ⟨n,hn,rfl⟩);simp at this
 ·refine⟨fun hn=>?_,fun _=>by omega⟩;have h3:=List.find?_some h2;have h4:=List.mem_of_find?_eq_some h2;obtain⟨i,hi,e⟩:=dk.1 h4;rw[←e]at h3;simp only[decide_eq_true_eq]at h3;have:i=n:=aa;exact(hn (this▸hi)).elim
theorem xsb{t y:Int}{l:List LReq}(h:y∈rh t l):∃r∈l,r.t=y:=by
 unfold rh at h;split at h
 ·cases h
 ·obtain⟨x,hx,e⟩:=dk.1 h;exact⟨x,(List.takeWhile_sublist _).subset (fe.1 hx).1,e⟩
theorem jh5(h:TabOk fs R T){t y:Int}(hy:y∈pb T t):∃r∈T.glob,r.t=y:=by
 unfold pb at hy;rcases dt.1 hy with hy|hy
 ·exact xsb hy
 ·obtain⟨q,hq,hy⟩:=List.mem_flatMap.1 hy;obtain⟨r,hr,e⟩:=xsb hy;rw[((h.mem q).1 hq).1]at hr;unfold rq at hr;obtain⟨i,hi,e2⟩:=dk.1 hr;rw[h.glob];refine⟨_,dk.2 ⟨i,(fe.1 hi).1,rfl⟩,?_⟩;rw[←e,←e2]
def qz6(T:LT)(t:Int):List Int:=(T.glob.filter fun r=>(pb T t).any fun y=>decide (y=r.t)).map (·.t)
def qvs(T:LT)(t:Int):Bool:=decide (0≤ni (fun x:LReq=>decide (x.t=t)) T.glob)&&decide (qz6 T t=[])
theorem jbx(h:TabOk fs R T):(T.glob.filter fun r=>qvs T r.t).map (·.t)=qwn T:=by
 unfold qwn;congr 1;refine qmh fun r hr=>?_;have h1:0≤ni (fun x:LReq=>decide (x.t=r.t)) T.glob:=by
  rcases qzt (fun x:LReq=>decide (x.t=r.t)) T.glob with⟨h1,h2⟩|⟨m,hm,h1,h2⟩
  ·have:=qms.1 h2 _ hr;simp at this
  ·omega
 have h2:qz6 T r.t=[]↔pb T r.t=[]:=by
  unfold qz6;rw[List.map_eq_nil_iff,qmr];constructor
  ·intro g;rcases e:pb T r.t with _|⟨y,m⟩
   ·rfl
   ·exfalso;have hy:y∈pb T r.t:=by rw[e];simp
    obtain⟨x,hx,ex⟩:=jh5 h hy;exact g x hx (qmf.2 ⟨y,hy,by simp[ex]⟩)
  ·intro g x hx;rw[g];simp
 unfold qvs;rw[decide_eq_true h1,fh,Bool.eq_iff_iff,decide_eq_true_eq,List.isEmpty_iff];exact h2
end
def fE(fs:List Foot)(i:Nat):Foot:=nw (fs.getD i ⟨true,[],[]⟩)
theorem xb2(fs:List Foot)(i:Nat):my (fE fs i).all (fE fs i).reads (fE fs i).writes=true:=qy4 _
theorem xit{fs:List Foot}{i:Nat}(h:i<fs.length):fE fs i=nw fs[i]:=by
 unfold fE;rw[fg,da h];rfl
def ta(fs:List Foot):Nat→LT
 | 0=>⟨[],[]⟩
 |n+1=>⟨(ta fs n).glob++[⟨(n:Int),(fE fs n).all⟩],qqj n (fE fs n) (ta fs n).qs⟩
structure TabIn(fs:List Foot)(R:List Nat)(T:LT):Prop where
 tab:TabOk (fE fs) R T
 asc:R.Pairwise (· < ·)
 sz:qa T.qs≤128 * fs.length
 lt:∀i∈R,i<fs.length
theorem xyj{R:List Nat}{N:Nat}(h1:R.Pairwise (· < ·))(h2:∀i∈R,i<N):R.length≤N:=by
 have:=xc3 R (List.range N) (h1.imp fun h=>Nat.ne_of_lt h) fun x hx=>eh.2 (h2 x hx)
 rwa [List.length_range]at this
section
variable {fs:List Foot} {R:List Nat} {T:LT}
theorem TabIn.valid(h:TabIn fs R T):zf T=true:=jlb h.tab h.asc fun i _=>xb2 fs i
theorem TabIn.globLen(h:TabIn fs R T):T.glob.length≤fs.length:=by
 rw[h.tab.glob,ew];exact xyj h.asc h.lt
theorem TabIn.qsLen(h:TabIn fs R T):T.qs.length≤128 * fs.length:=d9 (xsy fun q hq=>((h.tab.mem q).1 hq).2) h.sz
theorem TabIn.reqsLen(h:TabIn fs R T):∀x∈T.qs,x.reqs.length≤128 * fs.length:=fun x hx=>d9 (xnq hx) h.sz
theorem xj0(fs:List Foot):∀n,TabOk (fE fs) (List.range n) (ta fs n)∧qa (ta fs n).qs≤128 * n
 | 0=>⟨jeg _,by simp[ta,qa]⟩
 |n+1=>by
  obtain⟨h1,h2⟩:=xj0 fs n;refine⟨?_,?_⟩
  ·rw[List.range_succ];exact xnb h1 (xb2 fs n)
  ·have h3:=jb2 (xb2 fs n);have e:(ta fs (n+1)).qs=qqj n (fE fs n) (ta fs n).qs:=rfl;rw[e,xw8,xux];omega
theorem xmu(fs:List Foot)(n:Nat)(h:n≤fs.length):TabIn fs (List.range n) (ta fs n):=by
 obtain⟨h1,h2⟩:=xj0 fs n;exact⟨h1,List.pairwise_lt_range,aa,fun i hi=>by have:=eh.1 hi;omega⟩
theorem xp0(fs:List Foot)(n:Nat):ni (fun x:LReq=>decide (x.t=(n:Int))) (ta fs n).glob = -1∧∀x∈(ta fs n).glob,x.t≤n:=by
 obtain⟨h1,_⟩:=xj0 fs n;refine⟨(xmr h1 n).1 ae,fun x hx=>?_⟩;rw[h1.glob]at hx;obtain⟨i,hi,rfl⟩:=dk.1 hx;have:=eh.1 hi;simp only;omega
def stepT(fs:List Foot)(o:List Nat):LT:=o.foldl (fun T (j:Nat)=>qtf j T) (ta fs fs.length)
theorem xlv(fs:List Foot)(o:List Nat)(j:Nat):stepT fs (o++[j])=qtf j (stepT fs o):=by
 unfold stepT;rw[ql0];rfl
theorem xyc(n:Nat):qri n []=List.range n:=by simp[qri]
theorem TabIn.rel(h:TabIn fs R T)(j:Nat):TabIn fs (R.filter fun i=>!decide (i=j)) (qtf j T) :=
 ⟨xx9 h.tab j,h.asc.filter _,d9 (xnx j T.qs) h.sz,fun i hi=>h.lt i (fe.1 hi).1⟩
theorem xjo(fs:List Foot)(o:List Nat):TabIn fs (qri fs.length o) (stepT fs o):=by
 have:∀m,TabIn fs (qri fs.length (o.take m)) (stepT fs (o.take m)):=fun m=>by
  induction m with
  |zero =>
   rw[ql3,xyc];exact xmu fs fs.length (ct _)
  |succ m ih =>
   by_cases hm:m<o.length
   ·rw[eg hm,xlv,←jaj];exact ih.rel _
   ·rw[fo aa]at ih⊢;exact ih
 have:=this o.length
 rwa [qly]at this
theorem xrw(fs:List Foot)(o:List Nat):qwn (stepT fs o)=(qoa fs o).map Int.ofNat:=by
 have h:=xjo fs o;rw[ja8 h.tab h.asc fun i _=>xb2 fs i,jl0 fs o (fE fs) fun i hi=>xit hi]
theorem ja0{fs:List Foot}{o:List Nat}(h:Leg fs o)(n:Nat):Leg fs (o.take n):=by
 induction h with
 |nil=>rw[List.take_nil];exact .nil
 | @snoc o j h hj iz hc ih =>
  by_cases hn:n≤o.length
  ·rw[qlx hn];exact ih
  ·rw[fo am];exact .snoc h hj iz hc
end
section
variable {fmt:Int→g9} {procs:List Proc} {s:List Pr} {l:List Txn} {effs:List Eff} {done:List Bool}
theorem xui{choices:List Int}{step n:Nat}:quv choices step n=if h:step<choices.length then(if choices[step]<0 then 0 else choices[step].toNat % n)else 0:=by
 unfold quv;by_cases h:step<choices.length
 ·rw[dif_pos h,da h]
 ·rw[dif_neg h,fa aa]
end
structure RM where
 vars:List Pr
 own:List Pr
 st:Int
 code:Int
 out:List V
 reads:List g9
 puts:List g9
 miss:g9
 steps:Int
def RM.c(C:Cfg)(m:RM):List AV:=[.slice (C.state.map Pr.c),Bo C.all,.slice (C.rd.map im),.slice (C.wr.map im),.slice (m.vars.map Pr.c),.slice (m.own.map Pr.c),I m.st,I m.code,.slice (m.out.map V.c),.slice (m.reads.map im),.slice (m.puts.map im),.slice [],S m.miss,I m.steps]
def RM.ab(m:RM)(c:Int):RM:={ m with st:=2,code:=c,out:=[] }
def RM.rst(m:RM)(k:g9):RM:={ m with st:=3,code:=0,out:=[],miss:=k }
def qul(l:List Pr)(k:g9):Nat:=if (l[rz k l]?).map Pr.key=some k then rz k l+1 else rz k l
def py(l:List Pr)(p:Pr):List Pr:=l.take (rz p.key l)++p::l.drop (qul l p.key)
def od(C:Cfg)(m:RM)(k:g9):V×RM :=
 if rk k=false then(V.nil,m.ab 1004)
 else if jk m.puts k=true then(lh m.own k,m)
 else if C.all=false∧jk C.rd k=false then(V.nil,m.rst k)
 else(lh C.state k,{ m with reads:=sq m.reads k })
def qm7(C:Cfg)(m:RM)(k:g9)(v:V):RM :=
 if rk k=false then m.ab 1004
 else if C.all=false∧jk C.wr k=false then m.rst k
 else { m with puts:=sq m.puts k,own:=py m.own ⟨k,v⟩ }
def qqp(m:RM)(v:V):RM:=if 16≤(m.out.length:Int)then m.ab 1007 else { m with out:=m.out++[v] }
def qu(m:RM):RM:=if 16384<jt (m.steps+1)then { m with steps:=jt (m.steps+1) }.ab 1008 else { m with steps:=jt (m.steps+1) }
def zx(m:RM)(r:Int×Int):V×RM:=if r.2=4 then(V.nil,m.ab 1002)else if r.2≠0 then(V.nil,m.ab 1001)else(vI r.1,m)
def qoy(op a b:Int):Int×Int:=if op=4 then qry a b else if op=5 then t0 a b else if op=6 then qnw a b else if op=7 then qow a b else qoj a b
def qti(a b:V):Int:=if a.n<b.n∨ju a.s b.s=true then -1 else if ug a b=true then 0 else 1
def yi(m:RM)(op:Int)(a b:V):V×RM :=
 if op=4∨op=5∨op=6∨op=7∨op=8 then(if a.k=1∧b.k=1 then zx m (qoy op a.n b.n)else(V.nil,m.ab 1009))
 else if op=16 then(if a.k=3∧b.k=3 then(vB (decide (a.n=1)&&decide (b.n=1)),m)else(V.nil,m.ab 1009))
 else if op=17 then(if a.k=3∧b.k=3 then(vB (decide (a.n=1)||decide (b.n=1)),m)else(V.nil,m.ab 1009))
 else if op=19 then(if a.k=2∧b.k=2 then(if 64<jt (a.s.size+b.s.size:Int)then(V.nil,m.ab 1006)else(vS (a.s++b.s),m))else(V.nil,m.ab 1009))
 else if (a.k=1∧b.k=1)∨(a.k=2∧b.k=2)∨(a.k=3∧b.k=3∧(op=10∨op=11))then(vB (y8 op (qti a b)),m)
 else(V.nil,m.ab 1009)
def qr7(op:Int):Int:=if op=18 then 3 else if op=9∨op=20 then 1 else 2
def tq(C:Cfg)(m:RM)(op:Int)(a:V):V×RM :=
 if a.k≠qr7 op then(V.nil,m.ab 1009)
 else if op=9 then zx m (wj a.n)
 else if op=18 then(vB (decide (a.n=0)),m)
 else if op=20 then(vS (C.fmt a.n),m)
 else if op=21 then(vI a.s.size,m)
 else
  let x:=od C m a.s
  if x.2.st≠0 then(V.nil,x.2)
  else if op=24 then(vB (!decide (x.1.k=0)),x.2)
  else if x.1.k=0 then(⟨if op=23 then 2 else 1,0,em⟩,x.2)
  else if x.1.k≠(if op=23 then 2 else 1)then(V.nil,x.2.ab 1003)
  else(x.1,x.2)
def opR(C:Cfg)(m:RM)(op:Int)(l:List V):V×RM :=
 match l with
 | [a]=>tq C m op a
 | [a,b]=>yi m op a b
 |_=>(V.nil,m.ab 1009)
section
variable (C:Cfg)
mutual
def jj:Ex→RM→V×RM
 | .mk op n s args,m =>
  if op=1 then(vI n,m)
  else if op=2 then(vS s,m)
  else if op=3 then(if p8 m.vars s=true then(lh m.vars s,m)else(V.nil,m.ab 1009))
  else
   let x:=un args m
   if x.2.st≠0 then(V.nil,x.2)else opR C x.2 op x.1
def un:List Ex→RM→List V×RM
 | [],m=>([],m)
 |e::l,m =>
  let x:=jj e m
  if x.2.st≠0 then([],x.2)
  else
   let y:=un l x.2
   (x.1::y.1,y.2)
end
theorem je5(e:Ex)(m:RM):jj C e m=if e.op=1 then(vI e.n,m)
  else if e.op=2 then(vS e.s,m)
  else if e.op=3 then(if p8 m.vars e.s=true then(lh m.vars e.s,m)else(V.nil,m.ab 1009))
  else if (un C e.args m).2.st≠0 then(V.nil,(un C e.args m).2)else opR C (un C e.args m).2 e.op (un C e.args m).1:=by
 cases e;rw[jj];rfl
end
end Go.Cw
