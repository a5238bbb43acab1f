/- Part 9 of a proof. -/
import Derived.Test.YtolejdhnnchfpaaGreatDoorQ08
set_option linter.all false
namespace Go.Abs
section
variable {P:Program} {E:Ent}
def qdl:Nat->List AV->List (Nat×AV)
 |_,[]=>[]
 |k,x::xs=>(k,x)::qdl (k+1) xs
theorem xdk:∀{xs:List AV} {k i:Nat},ji (qdl k xs) i=if k<=i then(xs[i - k]?).getD .top else .top
 | [],k,i=>by simp[qdl,ji]
 |x::xs,k,i=>by
  simp only[qdl,ji];by_cases h:k=i
  .grind
  .have:(k == i)=false:=qf7;rw[this,cond_false,xdk];by_cases hk:k<=i
   .grind
   .grind
def qry(P:Program)(e:Env):ResultVar->SV
 | .tmp t=>⟨True,ji e.t t⟩
 | .cell a t=>quj P t (ji e.t a) e.h
def qxh:List AV->AV
 | [x]=>x
 |xs=>.tuple xs
def qx0(P:Program)(e:Env):List ResultVar->Prop
 | []=>True
 |r::l=>(qry P e r).side/\qx0 P e l
theorem xrj{e:Env}:∀{l:List ResultVar},qx0 P e l->∀r,r∈l->(qry P e r).side
 | [],_,r,hr=>by cases hr
 |x::l,h,r,hr=>by
  cases hr with
  |head=>exact h.1
  |tail _ hr=>exact xrj h.2 r hr
def qvf(P:Program)(rs:List ResultVar)(n0:Nat)(R:AEnd->g9->Prop)(e:Env):Prop :=
 qx0 P e rs/\∃r' h',((qxh (rs.map λr=>(qry P e r).val)).norm e.h).Wk r'/\r'.under h'.length=true/\hwk e.h h'/\n0<=h'.length/\hUnder h'.length h'=true/\R (.ret r') h'
def xoy(n0:Nat)(R:AEnd->g9->Prop)(v:AV)(e:Env):Prop :=
 ∃v' h',(v.norm e.h).Wk v'/\v'.under h'.length=true/\hwk e.h h'/\n0<=h'.length/\hUnder h'.length h'=true/\R (.panic v') h'
def qwv(P:Program)(rs:List ResultVar)(n0:Nat)(R:AEnd->g9->Prop):AExit->Env->Prop
 | .ret,e| .normal,e=>qvf P rs n0 R e
 | .panic v,e=>xoy n0 R v e
 | .exit _,_=>False
theorem Ent.ok.withN{c:Ctx}{h:g9}{w:World}(k:E.ok c h w)(n:Nat):(⟨n,E.c,E.h,E.w⟩:Ent).ok c h w :=
 ⟨k.edom,k.ext,k.blk0,k.len,k.os,k.tape,k.output,k.size,k.frame,k.newobj,k.dold⟩
theorem finish{c:Ctx}{e:Env}{a:Act}{w:World}(s:Sim E.N c e a w)(k:E.ok c e.h w){x r':AV}{v:Value}(hr:Rel c x v){h':g9}(hw:(x.norm e.h).Wk r')(hu:r'.under h'.length=true)(hh:hwk e.h h')(hn:E.h.length<=h'.length)
  (hhu:hUnder h'.length h'=true):∃c',HSim c' h' w/\E.ok c' h' w/\Rel c' r' v:=by
 obtain⟨s1,k1⟩:=qxo s.hs k;have hr1:=qdw s.hs hr;have sim:Sim 1 (c.share e.h w) ⟨[(0,x.norm e.h)],e.h⟩ ⟨#[v],[]⟩ w:=⟨rfl,rfl,λi=>by
  cases i with
  |zero=>simpa[ji]using hr1
  |succ i=>simp[ji];exact .top _,s1⟩
 obtain⟨c',s2,k2⟩:=Wk.mk (E:=⟨1,E.c,E.h,E.w⟩) (e:=⟨[(0,x.norm e.h)],e.h⟩) (e1:=⟨[(0,r')],h'⟩) hn hh hhu (by grind[wkT,ji]) _ _ _ sim (k1.withN 1);refine⟨c',s2.hs,⟨k2.edom,k2.ext,k2.blk0,k2.len,k2.os,k2.tape,k2.output,k2.size,k2.frame,k2.newobj,k2.dold⟩,?_⟩;have:=s2.tmps 0;simpa[ji]using this
open Classical in
theorem xel{c:Ctx}{e:Env}{a:Act}{w:World}(s:Sim E.N c e a w)(fn:Func)(hs:qx0 P e fn.results.toList) :
  ∃v,(results fn a.tmps).run P w=.ok v w/\Rel c (qxh (fn.results.toList.map λr=>(qry P e r).val)) v:=by
 have one:∀r,r∈fn.results.toList->∃v,((match r with
   | .tmp t=>pure (a.tmps.getD t undef)
   | .cell b t=>do loadVar t (<-asAddr (a.tmps.getD b undef)):Sem Value)).run P w=.ok v w/\Rel c (qry P e r).val v:=by
  intro r hr;have iu:=xrj hs r hr;cases r with
  |tmp t=>exact⟨_,rfl,s.tmps t⟩
  |cell b t =>
   obtain⟨v,hv,jr⟩:=xsr (P:=P) (t:=t) s.hs (s.tmps b) iu;refine⟨v,?_,jr⟩;show((do loadVar t (<-asAddr (a.tmps.getD b undef)):Sem Value)).run P w=_;generalize a.tmps.getD b undef=ad at hv|-;simp only[Instr.loadAt,c8]at hv;simp only[c8];cases ad with
   |pointer p =>
    cases p with
    |none=>simp[Instr.sureAddr]at hv
    |some p=>simpa[Instr.sureAddr,asAddr]using hv
   |_=>simp[Instr.sureAddr]at hv
 obtain⟨g,hg⟩:∃g:ResultVar->Value,∀r,r∈fn.results.toList->((match r with
   | .tmp t=>pure (a.tmps.getD t undef)
   | .cell b t=>do loadVar t (<-asAddr (a.tmps.getD b undef)):Sem Value)).run P w=.ok (g r) w/\Rel c (qry P e r).val (g r):=by
  refine⟨λr=>if hr:r∈fn.results.toList then(one r hr).choose else undef,λr hr=>?_⟩;simp only[dif_pos hr];exact(one r hr).choose_spec
 have hm:=xmb (P:=P) (w:=w) (f:=λr=>(match r with
   | .tmp t=>pure (a.tmps.getD t undef)
   | .cell b t=>do loadVar t (<-asAddr (a.tmps.getD b undef)):Sem Value)) (g:=g) fn.results (λr hr=>(hg r hr).1)
 have jk:(results fn a.tmps).run P w=.ok (if h:(fn.results.map g).size=1 then(fn.results.map g)[0]else .tuple (fn.results.map g)) w:=by
  unfold results;rw[c8];erw[hm];rfl
 refine⟨_,jk,?_⟩;by_cases h1:(fn.results.map g).size=1
 .rw[dif_pos h1];have mz:fn.results.toList.length=1:=af;obtain⟨r,hr⟩:=List.length_eq_one_iff.1 mz;have h0:fn.results = #[r]:=gj hr;simp only[hr,dj,fc,qxh];have:(fn.results.map g)[0]=g r:=cj;rw[this];exact(hg r qfo).2
 .rw[dif_neg h1];have hmk:qxh (fn.results.toList.map λr=>(qry P e r).val)=.tuple (fn.results.toList.map λr=>(qry P e r).val):=by
   generalize hl:fn.results.toList=l;have it:l.length≠1:=af
   match l,it with
   | [],_=>rfl
   | [x],h=>exact(h rfl).elim
   |x::y::l,_=>rfl
  rw[hmk];refine .tuple _ _ ac λj x v hx hv=>?_;simp only[di,db]at hx;obtain⟨r,hr,rfl⟩:=hx;simp only[fy,db]at hv;obtain⟨r',jf,rfl⟩:=hv;have:r=r':=af;subst this;exact(hg r (cv hr)).2
theorem xe3{N:Nat}{c:Ctx}{h:g9}{w:World}(hs:HSim c h w){args:List AV}{vs:Array Value}(ha:RelL c args vs)(hN:args.length<=N) :
  Sim N c ⟨qdl 0 args,h⟩ { tmps:=vs++Array.replicate (N - vs.size) undef,defers:=[] } w:=by
 refine⟨rfl,by simp[ha.1];omega,λi=>?_,hs⟩;rw[xdk,if_pos (dq _),Nat.sub_zero];by_cases hi:i<args.length
 .have ke:i<vs.size:=by rw[ha.1];exact hi
  have e1:args[i]?=some args[i]:=qhi;rw[e1];simp only[gq];have e2:(vs++Array.replicate (N - vs.size) undef).getD i undef=vs[i]:=by simp_all[dz,qj0]
  rw[e2];exact ha.2 i _ _ e1 (by simp[ke])
 .rw[fq aa];exact .top _
theorem xil{f:FuncId}{fn:Func}{code:Code}{args:List AV}{h:g9}{R:AEnd->g9->Prop}(hf:P.funcs[f]?=some fn)(hb:fn.body=some code)(wb:(fn.name == "runtime.NumGoroutine")=false)(hN:args.length<=fn.ntmps)
  (body:∀E:Ent,E.N=fn.ntmps->E.h=h->hUnder h.length h=true->AWp P E code (qwv P fn.results.toList h.length R) ⟨qdl 0 args,h⟩):ACalls P f args h R:=by
 refine⟨⟨fn,hf,qht,wb⟩,λc w vs hs ha=>?_⟩;have ok0:=Ent.ok.refl fn.ntmps hs;refine calls_of_wp hf hb (wp_mono (body ⟨fn.ntmps,c,h,w⟩ rfl rfl hs.hUnder c _ w ⟨rfl,by simp[ha.1];omega,λi=>?_,hs⟩ ok0) ?_)
 .rw[xdk,if_pos (dq _),Nat.sub_zero];by_cases hi:i<args.length
  .have ke:i<vs.size:=by rw[ha.1];exact hi
   have e1:args[i]?=some args[i]:=qhi;rw[e1];simp only[gq];have e2:(vs++Array.replicate (fn.ntmps - vs.size) undef).getD i undef=vs[i]:=by simp_all[dz,qj0]
   rw[e2];exact ha.2 i _ _ e1 (by simp[ke])
  .rw[fq aa];exact .top _
 .rintro ex a' w' ⟨x',e',c',hq,hx,jg,ok'⟩;have fin:∀e'':Exit,(e''=.ret\/e''=.normal)->qvf P fn.results.toList h.length R e'->bodyPost P fn (λe w'=>∃r h' c',R r h'/\EndR c' r e/\HSim c' h' w'/\(⟨0,c,h,w⟩:Ent).ok c' h' w') e'' a' w':=by
   rintro e'' he ⟨iu,r',h',h1,h2,h3,h4,h5,hR⟩;obtain⟨v,hv,hr⟩:=xel (E:=⟨fn.ntmps,c,h,w⟩) (P:=P) jg fn iu;obtain⟨c2,g1,g2,g3⟩:=finish (E:=⟨fn.ntmps,c,h,w⟩) jg ok' hr h1 h2 h3 h4 h5;rcases he with rfl|rfl
   .exact⟨jg.defers,v,hv,.ret r',h',c2,hR,g3,g1,g2.withN 0⟩
   .exact⟨jg.defers,v,hv,.ret r',h',c2,hR,g3,g1,g2.withN 0⟩
  cases x' with
  |normal=>cases ex<;>simp only[XR]at hx;exact fin _ (.inr rfl) hq
  |exit i=>exact hq.elim
  |ret=>cases ex<;>simp only[XR]at hx;exact fin _ (.inl rfl) hq
  |panic x =>
   cases ex with
   |panic ch =>
    cases ch with
    |nil=>simp[XR]at hx
    |cons p l =>
     cases l with
     |nil =>
      obtain⟨u,r,g⟩:=p;cases r<;>cases g<;>simp only[XR]at hx;obtain⟨v',h',h1,h2,h3,h4,h5,hR⟩:=hq;obtain⟨c2,g1,g2,g3⟩:=finish (E:=⟨fn.ntmps,c,h,w⟩) jg ok' hx h1 h2 h3 h4 h5;exact⟨jg.defers,.panic v',h',c2,hR,g3,g1,g2.withN 0⟩
     |cons=>simp[XR]at hx
   |_=>simp[XR]at hx
def xen(P:Program)(rs:List ResultVar)(r:AV)(h:g9):AExit->Env->Prop
 | .ret,e| .normal,e=>qx0 P e rs/\(qxh (rs.map λr=>(qry P e r).val)).norm e.h=r/\hwk e.h h
 |_,_=>False
theorem xyr{f:FuncId}{fn:Func}{code:Code}{args:List AV}{r:AV}(hf:P.funcs[f]?=some fn)(hb:fn.body=some code)(wb:(fn.name == "runtime.NumGoroutine")=false)(hN:args.length<=fn.ntmps)(hr:r.under 0=true)
  (body:∀(E:Ent) (h:g9),E.N=fn.ntmps->E.h=h->hUnder h.length h=true->AWp P E code (xen P fn.results.toList r h) ⟨qdl 0 args,h⟩):APure P f args r:=λh =>
 xil hf hb wb hN λE hEN hEh hu=>(body E h hEN hEh hu).mono λx e hq=>by
  cases x with
  |ret=>exact⟨hq.1,r,h,hq.2.1▸.refl _,AV.under_mono (dq _) r hr,hq.2.2,cn _,hu,rfl,rfl⟩
  |normal=>exact⟨hq.1,r,h,hq.2.1▸.refl _,AV.under_mono (dq _) r hr,hq.2.2,cn _,hu,rfl,rfl⟩
  |exit i=>exact hq.elim
  |panic v=>exact hq.elim
theorem xv5{f:FuncId}{args:List AV}{r:AV}(h:APure P f args r){hp:g9}{R:AEnd->g9->Prop}(k:R (.ret r) hp):ACalls P f args hp R :=
 (h hp).mono λe h' he=>by obtain⟨rfl,rfl⟩:=he;exact k
end
@[simp] theorem jn4(b:Bool):qm2 (.bool b)=.val (.bool b):=rfl
@[simp] theorem jo3(k:IntKind)(n:Int):qm2 (.int k n)=.val (.int k n):=rfl
@[simp] theorem jnk(l:List UInt8)(h:l.length<=68719476736):qm2 (.string ⟨l.toArray⟩)=.val (.string ⟨l.toArray⟩):=by grind[ByteArray.size,qm2,ul]
@[simp] theorem jpj:qm2 .nilIface=.val .nilIface:=rfl
@[simp] theorem jmr:qm2 (.slice none 0 0)=.nils:=rfl
@[simp] theorem jog(vs:List Value):qm2 (.agg ⟨vs⟩)=match xe8 vs with
  |true=>.agg (vs.map ul)
  |false=>.val (.agg ⟨vs⟩):=rfl
@[simp] theorem jns(b:Bool):ul (.bool b)=.val (.bool b):=rfl
@[simp] theorem jmc(k:IntKind)(n:Int):ul (.int k n)=.val (.int k n):=rfl
@[simp] theorem jl5(l:List UInt8)(h:l.length<=68719476736):ul (.string ⟨l.toArray⟩)=.val (.string ⟨l.toArray⟩):=by grind[ByteArray.size,ul]
@[simp] theorem jmp:ul (.slice none 0 0)=.nils:=rfl
@[simp] theorem jg6(K:Env->Prop)(Q:AExit->Env->Prop)(e:Env):AExit.then K Q .normal e=K e:=rfl
@[simp] theorem jln(K:Env->Prop)(Q:AExit->Env->Prop)(e:Env):AExit.then K Q .ret e=Q .ret e:=rfl
@[simp] theorem jne(K:Env->Prop)(Q:AExit->Env->Prop)(i:Nat)(e:Env):AExit.then K Q (.exit i) e=Q (.exit i) e:=rfl
@[simp] theorem job(K:Env->Prop)(Q:AExit->Env->Prop)(v:AV)(e:Env):AExit.then K Q (.panic v) e=Q (.panic v) e:=rfl
@[simp] theorem jmq(i:Nat)(Q:AExit->Env->Prop)(e:Env):AExit.inBlock i Q .normal e=Q .normal e:=rfl
@[simp] theorem jl0(i:Nat)(Q:AExit->Env->Prop)(e:Env):AExit.inBlock i Q .ret e=Q .ret e:=rfl
@[simp] theorem jmv(i j:Nat)(Q:AExit->Env->Prop)(e:Env):AExit.inBlock i Q (.exit j) e=if j=i then Q .normal e else Q (.exit j) e:=rfl
@[simp] theorem jo4(i:Nat)(Q:AExit->Env->Prop)(v:AV)(e:Env):AExit.inBlock i Q (.panic v) e=Q (.panic v) e:=rfl
@[simp] theorem jm4(h:g9):hwk h h=True:=eq_true (hwk.refl h)
@[simp] theorem joh(h l:g9):hwk (h++l) h=True:=eq_true (hwk.app0 h)
@[simp] theorem jpf(x:AV):x.Wk x=True:=eq_true (.refl x)
@[simp] theorem jnx(x:AV):x.Wk .top=True:=eq_true (.top x)
@[simp] theorem jlg:AV.nils.Wk (.slice [])=True:=eq_true .nils
theorem jk1{y z:AV}:qli (.val (.bool true)) y z=y.strip:=by grind[AV.strip,qli]
theorem jgu{y z:AV}:qli (.val (.bool false)) y z=z.strip:=by grind[AV.strip,qli]
theorem jil{g:Bool}{v:Value}{y z:AV}:qli (.opt g (.val v)) y z=qli (.val v) y z:=rfl
theorem xvi{g:Bool}{v:Value}{x z:AV}:qli x (.opt g (.val v)) z=qli x (.val v) z:=rfl
theorem xvm{g:Bool}{v:Value}{x y:AV}:qli x y (.opt g (.val v))=qli x y (.val v):=rfl
theorem jc6{b p q:Bool}:qli (.val (.bool b)) (.val (.bool p)) (.val (.bool q))=.val (.bool (bif b then p else q)):=rfl
@[simp] theorem RowsLen.nil(sz:Nat):RowsLen sz []=True:=eq_true (λ_ h=>by cases h)
@[simp] theorem RowsLen.cons(sz:Nat)(r:List AV)(l:List (List AV)):RowsLen sz (r::l)=(r.length=sz/\RowsLen sz l):=by simp[RowsLen]
@[simp] theorem RowsLen.map{α:Type}(sz:Nat)(f:α->List AV)(l:List α)(h:∀x,(f x).length=sz):RowsLen sz (l.map f)=True:=by simp[RowsLen,h]
@[simp] theorem RowsLen.take(sz n:Nat)(l:List (List AV))(h:RowsLen sz l):RowsLen sz (l.take n)=True:=eq_true (λr hr=>h r (qi7 hr))
@[simp] theorem RowsLen.drop(sz n:Nat)(l:List (List AV))(h:RowsLen sz l):RowsLen sz (l.drop n)=True:=eq_true (λr hr=>h r (qjf hr))
@[simp] theorem RowsLen.app(sz:Nat)(l l':List (List AV)):RowsLen sz (l++l')=(RowsLen sz l/\RowsLen sz l'):=by grind[RowsLen]
@[simp] theorem jm2{α β:Type}(f:α->β)(l:List α):(l.map f).take l.length=l.map f:=fw ac
attribute [go_sem] jk1 jgu jil xvi xvm jc6
attribute [go_sem] xe8 qnl s7 gB zj u9 qg qb Env.put me Env.get AV.has Env.getS AV.strip ji qdl qy qyn Op.operands Call.operands
 xdu xgw xbf zo eqA qub AV.isInt AV.isIface qlb quj qzh qd9 xb0 qun qvq xbs xai qzc xac qz8 xa9 xbu TK.agg AV.cells AV.cellsOk AV.one AV.isData qpj qxw qyw qvi qsh qw8 qqn SV.no Value.oneCell'
 xen qwv qvf xoy qx0 qry qxh AV.norm ko AV.under lj wkT wkL
inductive DK where
 |quiet (rd:Option Nat)
 |fresh (xs:List AV)
 |store (i off:Nat) (cs:List AV)
structure DR where
 dst:Option Tmp
 res:AV
 k:DK
instance:Inhabited DR:=⟨⟨none,.top,.quiet none⟩⟩
def DR.next(r:DR)(e:Env):Env :=
 match r.k with
 | .fresh xs=>({ e with h:=e.h++[.cells xs] }:Env).put r.dst r.res
 |_=>e.put r.dst r.res
def qxe(e:Env):Op->Option Nat
 | .load _ a=>match e.getS a with
  | .ptr i _=>some i
  |_=>none
 |_=>none
def AObj.kept:AObj->Bool
 | .raw .. | .uarr .. | .oarr .. | .map ..=>true
 |_=>false
def xso(h h':g9):Prop:=∀(i:Nat) (o:AObj),o.kept=true->h[i]?=some o->h'[i]?=some o
def qxr(P:Program)(f:FuncId)(args:List AV)(r:AV)(h:g9):Prop:=∀h',xso h h'->ACalls P f args h' λe h''=>e=.ret r/\h''=h'
theorem APure.at{P:Program}{f:FuncId}{args:List AV}{r:AV}(k:APure P f args r)(h:g9):qxr P f args r h:=λh' _=>k h'
def qrp:Op->Bool
 | .store ..=>true
 |_=>false
def ux(P:Program)(N:Nat)(ds:List (Option Tmp))(o:Oper)(e:Env)(K:DR->Prop):Prop :=
 match gB ds e o.guard with
 |none=>False
 |some G =>
  zj N o.dst /\
  match o.op with
  | .pick x y z=>qyn G (e.get x) (e.get y) (e.get z)/\K ⟨o.dst,qb o.guard G (qli (e.get x) (e.get y) (e.get z)),.quiet none⟩
  | .box _ x=>o.guard=none/\me e true [x]/\(e.getS x).cellsOk=true/\K ⟨o.dst,.ptr e.h.length 0,.fresh (e.getS x).cells⟩
  | .alloc T=>o.guard=none/\im P T≠.other/\K ⟨o.dst,.ptr e.h.length 0,.fresh (jh P T)⟩
  | .store T a x=>o.guard=none/\o.dst=none/\me e true [a,x]/\im P T≠.other/\(e.getS x).cellsOk=true/\(e.getS x).cells.length=jd P T /\
   match e.getS a with
   | .ptr i off=>match e.h[i]? with
    |some (.cells xs)=>off+(e.getS x).cells.length<=xs.length/\K ⟨none,.top,.store i off (e.getS x).cells⟩
    |_=>False
   |_=>False
  | .buildSlice T n parts =>
   match im P T with
   | .slice el sz=>match qpj e.h sz 0 (parts.toList.map λp=>(p.1,e.getS p.2))with
    |some rows=>G=true/\me e true (parts.toList.map (·.2))/\rows.length=n/\0<sz/\n * sz<=16777216/\im P el≠.other/\jd P el=sz/\K ⟨o.dst,qb o.guard G (.slice rows),.quiet none⟩
    |none=>match qxw sz n (parts.toList.map λp=>(p.1,e.getS p.2))with
     |some cs=>G=true/\me e true (parts.toList.map (·.2))/\0<sz/\sz<=16777216/\im P el≠.other/\jd P el=sz/\K ⟨o.dst,qb o.guard G (.lit cs),.quiet none⟩
     |none=>False
   |_=>False
  | .call { callee:=.value f,args,.. }=>match e.getS f with
   | .fn (.func fid) first caps=>∃r,(G=true->me e true (f::args.toList)/\qxr P fid (ko e.h (first++args.toList.map e.getS++caps)) r e.h)/\K ⟨o.dst,qb o.guard G r,.quiet none⟩
   |_=>False
  |op=>(G=true->me e true op.operands.toList/\(qg P e.getS e.h op).side)/\K ⟨o.dst,qb o.guard G (qg P e.getS e.h op).val,.quiet (qxe e op)⟩
def qml(P:Program)(N:Nat):List (Option Tmp)->List Oper->Env->List DR->(List DR->Env->Prop)->Prop
 |_,[],e,iw,K=>K iw e
 |ds,o::l,e,iw,K=>ux P N ds o e λr=>qml P N (ds++[o.dst]) l (r.next e) (iw++[r]) K
theorem xj1{P:Program}{N:Nat}{ds:List (Option Tmp)}{o:Oper}{e:Env}{K:DR->Prop}(h:ux P N ds o e K):∃r,ux P N ds o e (· = r)/\K r:=by
 unfold ux at h|-;split at h
 .grind
 .rename_i G hG;simp only[hG];obtain⟨hd,h⟩:=h;split at h
  .grind
  .grind
  .grind
  .grind
  .rename_i T n parts lf;split at h
   .grind
   .grind
  .grind
  .grind
def jb(e:Env):List DR->Env
 | []=>e
 |r::l=>jb (r.next e) l
theorem qvt{P:Program}{N:Nat}:∀{l:List Oper} {ds:List (Option Tmp)} {e:Env} {iw:List DR} {K:List DR->Env->Prop},qml P N ds l e iw K ->
  ∃R:List DR,R.length=l.length/\(∀(k:Nat) (o:Oper),l[k]?=some o->ux P N (ds++(l.take k).map (·.dst)) o (jb e (R.take k)) (λr=>R[k]?=some r))/\K (iw++R) (jb e R)
 | [],ds,e,iw,K,h=>⟨[],rfl,ac,by simpa[jb,qml]using h⟩
 |o::l,ds,e,iw,K,h=>by
  obtain⟨r,h1,h2⟩:=xj1 (K:=λr=>qml P N (ds++[o.dst]) l (r.next e) (iw++[r]) K) h;obtain⟨R,hl,hk,hK⟩:=qvt h2;refine⟨r::R,qgk,λk o' ho=>?_,by simpa[jb]using hK⟩;cases k with
  |zero =>
   simp at ho;subst ho;simpa[jb,eq_comm]using h1
  |succ k =>
   have:=hk k o' af;simpa[jb,dn]using this
def rr:List DR->g9->g9
 | [],h=>h
 |r::l,h=>match r.k with
  | .store i off cs=>rr l (match h[i]? with
   |some (.cells xs)=>h.set i (.cells (xs.take off++cs++xs.drop (off+cs.length)))
   |_=>h)
  |_=>rr l h
def ur(X:Nat->Bool)(t:Tmp):Nat->List DR->AV->AV
 |_,[],x=>x
 |k,r::l,x=>ur X t (k+1) l (bif X k&&decide (r.dst=some t)then r.res else x)
def ni(X:Nat->Bool):Nat->List DR->g9
 |_,[]=>[]
 |k,r::l=>match r.k with
  | .fresh xs=>(bif X k then AObj.cells xs else .none)::ni X (k+1) l
  |_=>ni X (k+1) l
def ss(X:Nat->Bool):Nat->List DR->List DR
 |_,[]=>[]
 |k,r::l=>bif X k then r::ss X (k+1) l else ss X (k+1) l
theorem qcu{X Y:Nat->Bool}{t:Tmp}:∀{l:List DR} {k:Nat} {x:AV},(∀j r,l[j]?=some r->r.dst=some t->X (k+j)=Y (k+j))->ur X t k l x=ur Y t k l x
 | [],_,_,_=>rfl
 |r::l,k,x,h=>by
  simp only[ur];have h0:(X k&&decide (r.dst=some t))=(Y k&&decide (r.dst=some t)):=by
   by_cases hd:r.dst=some t
   .have:=h 0 r rfl hd;simp only[ea]at this;rw[this]
   .simp[hd]
  rw[h0];exact qcu λj r' hr hd=>by
   have:=h (j+1) r' af hd
   rwa [show k+(j+1)=k+1+j from by omega]at this
theorem qzp{X:Nat->Bool}{t:Tmp}:∀{l:List DR} {k:Nat} {x:AV},(∀j r,l[j]?=some r->X (k+j)=true->r.dst≠some t)->ur X t k l x=x
 | [],_,_,_=>rfl
 |r::l,k,x,h=>by
  have h0:(X k&&decide (r.dst=some t))=false:=by
   by_cases hX:X k=true
   .simp[h 0 r rfl aa]
   .simp[hX]
  simp only[ur,h0,cond_false];exact qzp λj r' hr hX=>h (j+1) r' af af
theorem qxx{X:Nat->Bool}{t:Tmp}:∀{l:List DR} {k i:Nat} {r:DR} {x:AV},l[i]?=some r->(∀j r',l[j]?=some r'->r'.dst=r.dst->r.dst≠none->j=i) ->
  ur (λj=>if j=k+i then true else X j) t k l x=if r.dst=some t then r.res else ur X t k l x
 | [],_,_,_,_,h,_=>by simp at h
 |a::l,k,0,r,x,h,hu=>by
  simp at h;subst h;simp only[ur,ea,if_true,dh];have qrw:∀y,ur (λj=>if j=k then true else X j) t (k+1) l y=ur X t (k+1) l y:=λy=>qcu λj r' _ _=>by grind
  rw[qrw];by_cases hd:a.dst=some t
  .rw[if_pos hd,decide_eq_true hd,cond_true];exact qzp λj r' jf _ sn=>by
    have:=hu (j+1) r' af af af;omega
  .grind
 |a::l,k,i+1,r,x,h,hu=>by
  have it:(if k=k+(i+1)then true else X k)=X k:=if_neg aa;simp only[ur];rw[it];have hf:(λj=>if j=k+(i+1)then true else X j)=(λj=>if j=k+1+i then true else X j):=af;rw[hf];exact qxx (X:=X) (t:=t) (k:=k+1) (l:=l) (i:=i) (r:=r) af λj r' jf hd hn=>by
   have:=hu (j+1) r' af hd hn;omega
theorem xdd{X:Nat->Bool}{t:Tmp}:∀(R:List DR) (n k:Nat) (x:AV),ur X t k (R.take n) x=ur (λj=>decide (j<k+n)&&X j) t k R x
 | [],n,k,x=>by simp[ur]
 |r::R,0,k,x=>by grind[qzp]
 |r::R,n+1,k,x=>by
  simp only[qi9,ur];rw[xdd R n (k+1)];have h1:(decide (k<k+(n+1))&&X k)=X k:=ac;rw[h1];exact qcu λj _ _ _=>by rw[show k+1+n=k+(n+1)from by omega]
theorem qx2{e:Env}{t:Tmp}:∀(R:List DR),ji (jb e R).t t=ur (λ_=>true) t 0 R (ji e.t t):=by
 intro R;have gen:∀(R:List DR) (k:Nat) (e:Env),ji (jb e R).t t=ur (λ_=>true) t k R (ji e.t t):=by
  intro R
  induction R with
  |nil=>intro k e;rfl
  |cons r R ih =>
   intro k e;simp only[jb,ur,dh];rw[ih (k+1)];congr 1;have qsc:∀e':Env,ji (e'.put r.dst r.res).t t=bif decide (r.dst=some t)then r.res else ji e'.t t:=λe'=>by
    cases hd:r.dst with
    |none=>simp[Env.put]
    |some d =>
     simp only[Env.put,ji,eb];by_cases h:d=t
     .grind
     .grind
   unfold DR.next
   split<;>exact qsc _
 exact gen R 0 e
theorem qxl{e:Env}(R:List DR):(jb e R).h=e.h++ni (λ_=>true) 0 R:=by
 have gen:∀(R:List DR) (k:Nat) (e:Env),(jb e R).h=e.h++ni (λ_=>true) k R:=by
  intro R
  induction R with
  |nil=>intro k e;simp[jb,ni]
  |cons r R ih =>
   intro k e;simp only[jb];rw[ih (k+1)];have qsc:∀(e':Env) d v,(e'.put d v).h=e'.h:=λe' d v=>by cases d<;>rfl
   unfold DR.next
   simp only[ni];cases r.k<;>simp[qsc]
 exact gen R 0 e
def qmc(R:List DR)(k:Nat):Nat:=(ni (λ_=>true) 0 (R.take k)).length
theorem qyf{X:Nat->Bool}:∀(R:List DR) (k i:Nat) (r:DR) (xs:List AV),R[i]?=some r->r.k=.fresh xs ->
  (ni X k R)[(ni (λ_=>true) k (R.take i)).length]?=some (bif X (k+i)then .cells xs else .none)
 | [],_,_,_,_,h,_=>by simp at h
 |a::R,k,0,r,xs,h,hk=>by grind[ni]
 |a::R,k,i+1,r,xs,h,hk=>by
  have:=qyf (X:=X) R (k+1) i r xs af hk;rw[show k+1+i=k+(i+1)from by omega]at this;simp only[qi9,ni];cases a.k with
  |fresh ys=>simpa using this
  |_=>exact this
theorem qc6{X:Nat->Bool}:∀(R:List DR) (k j:Nat) (o:AObj),(ni X k R)[j]?=some o->∃i r xs,R[i]?=some r/\r.k=.fresh xs/\(ni (λ_=>true) k (R.take i)).length=j/\o=bif X (k+i)then .cells xs else .none
 | [],_,_,_,h=>by simp[ni]at h
 |a::R,k,j,o,h=>by
  simp only[ni]at h;cases hk:a.k with
  |fresh ys =>
   rw[hk]at h;cases j with
   |zero =>
    simp at h;exact⟨0,a,ys,rfl,hk,by simp[ni],by rw[<-h];simp⟩
   |succ j =>
    obtain⟨i,r,xs,h1,h2,h3,h4⟩:=qc6 R (k+1) j o qf7;exact⟨i+1,r,xs,bw,h2,by simp only[qi9,ni,hk,dy,h3],qgi⟩
  |quiet rd =>
   rw[hk]at h;obtain⟨i,r,xs,h1,h2,h3,h4⟩:=qc6 R (k+1) j o h;exact⟨i+1,r,xs,bw,h2,qh3,qgi⟩
  |store a1 a2 a3 =>
   rw[hk]at h;obtain⟨i,r,xs,h1,h2,h3,h4⟩:=qc6 R (k+1) j o h;exact⟨i+1,r,xs,bw,h2,qh3,qgi⟩
theorem xli{X:Nat->Bool}:∀(R:List DR) (k i:Nat) (r:DR) (xs:List AV),R[i]?=some r->r.k=.fresh xs ->
  ni (λj=>if j=k+i then true else X j) k R=(ni X k R).set (ni (λ_=>true) k (R.take i)).length (.cells xs)
 | [],_,_,_,_,h,_=>by simp at h
 |a::R,k,0,r,xs,h,hk=>by
  simp at h;subst h;simp only[ni,hk,ea,if_true,qjj,ed,List.set_cons_zero,List.cons.injEq,cond_true,true_and];have:∀(R:List DR) (m:Nat),k<m->ni (λj=>if j=k then true else X j) m R=ni X m R:=by
   intro R
   induction R with
   |nil=>intro m _;rfl
   |cons b R ih =>
    intro m hm;have it:(if m=k then true else X m)=X m:=if_neg aa;simp only[ni];rw[it,ih (m+1) aa]
  exact this R (k+1) aa
 |a::R,k,i+1,r,xs,h,hk=>by
  have:=xli (X:=X) R (k+1) i r xs af hk;rw[show k+1+i=k+(i+1)from by omega]at this;have it:(if k=k+(i+1)then true else X k)=X k:=if_neg aa;simp only[qi9,ni];cases a.k with
  |fresh ys =>
   simp only[dy,qj8];rw[this,it]
  |_=>exact this
theorem xef{X:Nat->Bool}:∀(R:List DR) (k i:Nat) (r:DR),R[i]?=some r->(∀xs,r.k≠.fresh xs)->ni (λj=>if j=k+i then true else X j) k R=ni X k R
 | [],_,_,_,_,_=>rfl
 |a::R,k,0,r,h,hk=>by
  simp at h;subst h;have:∀(R:List DR) (m:Nat),k<m->ni (λj=>if j=k then true else X j) m R=ni X m R:=by
   intro R
   induction R with
   |nil=>intro m _;rfl
   |cons b R ih =>
    intro m hm;have it:(if m=k then true else X m)=X m:=if_neg aa;simp only[ni];rw[it,ih (m+1) aa]
  simp only[ni,ea];cases hak:a.k with
  |fresh xs=>exact(hk xs hak).elim
  |_=>exact this R (k+1) aa
 |a::R,k,i+1,r,h,hk=>by
  have:=xef (X:=X) R (k+1) i r af hk;rw[show k+1+i=k+(i+1)from by omega]at this;have it:(if k=k+(i+1)then true else X k)=X k:=if_neg aa;simp only[ni];rw[this,it]
def qxg(xs:List AV)(off:Nat)(cs:List AV):List AV:=xs.take off++cs++xs.drop (off+cs.length)
def wa(r:DR)(h:g9):g9 :=
 match r.k with
 | .store i off cs=>match h[i]? with
  |some (.cells xs)=>h.set i (.cells (qxg xs off cs))
  |_=>h
 |_=>h
theorem zn:∀(l:List DR) (h:g9),rr l h=l.foldl (λh r=>wa r h) h
 | [],_=>rfl
 |r::l,h=>by
  simp only[rr,fj,wa];cases r.k with
  |store i off cs=>exact zn l _
  |_=>exact zn l _
theorem xqr(r:DR)(h:g9):(wa r h).length=h.length:=by grind[wa]
theorem jkz(l:List DR)(h:g9):(rr l h).length=h.length:=by
 rw[zn]
 induction l generalizing h with
 |nil=>rfl
 |cons r l ih=>rw[fj,ih,xqr]
theorem xxx{r:DR}{h:g9}{i:Nat}(kf:∀off cs,r.k≠.store i off cs):(wa r h)[i]?=h[i]?:=by grind[ct,wa]
theorem xxj{l:List DR}{h:g9}{i:Nat}(kf:∀r,r∈l->∀off cs,r.k≠.store i off cs):(rr l h)[i]?=h[i]?:=by
 rw[zn]
 induction l generalizing h with
 |nil=>rfl
 |cons r l ih =>
  rw[fj,ih (λr' hr=>kf r' qfo),xxx (kf r ac)]
theorem qd4(r:DR)(h:g9)(i:Nat):(∀o,(∀xs,o≠AObj.cells xs)->((wa r h)[i]?=some o↔h[i]?=some o)):=by grind[du,ct,wa]
theorem xck(l:List DR)(h:g9)(i:Nat):(∀o,(∀xs,o≠AObj.cells xs)->((rr l h)[i]?=some o↔h[i]?=some o)):=by
 intro o ho;rw[zn]
 induction l generalizing h with
 |nil=>exact Iff.rfl
 |cons r l ih=>rw[fj,ih,qd4 r h i o ho]
theorem xpy{r:DR}{h:g9}(qx6:∀i off cs xs,r.k=.store i off cs->h[i]?=some (.cells xs)->off+cs.length<=xs.length){i:Nat}{xs:List AV}(hi:h[i]?=some (.cells xs)) :
  ∃ys,(wa r h)[i]?=some (.cells ys)/\ys.length=xs.length:=by
 unfold wa;split
 .rename_i i' off cs hk;split
  .grind[du,qxg,ct]
  .grind
 .grind
theorem xxm{l:List DR}:∀{h:g9},(∀r,r∈l->∀i off cs,r.k=.store i off cs->∀ys,h[i]?=some (.cells ys)->off+cs.length<=ys.length)->∀{i:Nat} {xs:List AV},h[i]?=some (.cells xs) ->
  ∃ys,(rr l h)[i]?=some (.cells ys)/\ys.length=xs.length:=by
 induction l with
 |nil=>intro h _ i xs hi;exact⟨xs,hi,rfl⟩
 |cons r l ih =>
  intro h qx6 i xs hi;rw[zn,fj,<-zn];obtain⟨ys,h1,h2⟩:=xpy (r:=r) (h:=h) (λi off cs xs hk hx=>qx6 r ac i off cs hk xs hx) hi;obtain⟨zs,h3,h4⟩:=ih (h:=wa r h) (λr' hr i off cs hk ys hy=>by
   -- the object was cells before too
   cases hh:h[i]? with
   |none =>
    have:(wa r h)[i]?=none:=by grind[List.getElem?_eq_none_iff,xqr]
    rw[this]at hy;cases hy
   |some o =>
    cases o with
    |cells zs =>
     obtain⟨us,g1,g2⟩:=xpy (r:=r) (h:=h) (λi off cs xs hk hx=>qx6 r ac i off cs hk xs hx) hh;rw[hy]at g1;cases g1;rw[g2];exact qx6 r' qfo i off cs hk zs hh
    |none=>have:=(qd4 r h i .none ac).2 hh;rw[this]at hy;cases hy
    |map es=>have:=(qd4 r h i (.map es) ac).2 hh;rw[this]at hy;cases hy
    |iter a b=>have:=(qd4 r h i (.iter a b) ac).2 hh;rw[this]at hy;cases hy
    |raw a b d=>have:=(qd4 r h i (.raw a b d) ac).2 hh;rw[this]at hy;cases hy
    |uarr a b d=>have:=(qd4 r h i (.uarr a b d) ac).2 hh;rw[this]at hy;cases hy
    |oarr a b d=>have:=(qd4 r h i (.oarr a b d) ac).2 hh;rw[this]at hy;cases hy
    |arr a b d=>have:=(qd4 r h i (.arr a b d) ac).2 hh;rw[this]at hy;cases hy) h1
  exact⟨zs,h3,by rw[h4,h2]⟩
theorem qt3{X:Nat->Bool}:∀{R:List DR} {k:Nat} {r:DR},r∈ss X k R->∃j,R[j]?=some r/\X (k+j)=true
 | [],_,_,h=>by simp[ss]at h
 |a::R,k,r,h=>by
  simp only[ss]at h;cases hX:X k with
  |true =>
   rw[hX,cond_true]at h;cases h with
   |head=>exact⟨0,rfl,by simpa using hX⟩
   |tail _ h =>
    obtain⟨j,h1,h2⟩:=qt3 h;exact⟨j+1,bw,by rwa [show k+(j+1)=k+1+j from by omega]⟩
  |false =>
   rw[hX,cond_false]at h;obtain⟨j,h1,h2⟩:=qt3 h;exact⟨j+1,bw,by rwa [show k+(j+1)=k+1+j from by omega]⟩
theorem xk4{X:Nat->Bool}:∀{R:List DR} {k i:Nat} {r:DR},R[i]?=some r->X (k+i)=false->((∀a b cs,r.k≠.store a b cs)\/∀j r',R[j]?=some r'->i<j->X (k+j)=true->∀a b cs,r'.k≠.store a b cs)->∀h,
  rr (ss (λj=>if j=k+i then true else X j) k R) h=wa r (rr (ss X k R) h):=by
 have quiet:∀{l:List DR} {h:g9},(∀r,r∈l->∀a b cs,r.k≠.store a b cs)->rr l h=h:=by
  intro l
  induction l with
  |nil=>intro h _;rfl
  |cons r l ih =>
   intro h hq;rw[zn,fj,<-zn,ih (λr' hr=>hq r' qfo)];unfold wa;split
   .grind
   .rfl
 have same:∀(k:Nat) (R:List DR) (m:Nat),k<m->ss (λj=>if j=k then true else X j) m R=ss X m R:=by
  intro k R
  induction R with
  |nil=>intro m _;rfl
  |cons b R ih =>
   intro m hm;have it:(if m=k then true else X m)=X m:=if_neg aa;simp only[ss];rw[it,ih (m+1) aa]
 have idle:∀{r:DR} {h:g9},(∀a b cs,r.k≠.store a b cs)->wa r h=h:=by grind[wa]
 intro R
 induction R with
 |nil=>intro k i r h;simp at h
 |cons a R ih =>
  intro k i r hr hX yz h;cases i with
  |zero =>
   simp at hr;subst hr;simp only[ea]at hX|-;simp only[ss,if_true,hX,cond_true,cond_false];rw[same k R (k+1) aa,zn,fj,<-zn];rcases yz with hq|hq
   .grind
   .have iz:∀r',r'∈ss X (k+1) R->∀a b cs,r'.k≠.store a b cs:=λr' jf=>by
     obtain⟨j,h1,h2⟩:=qt3 jf;exact hq (j+1) r' af aa af
    rw[quiet iz,quiet iz]
  |succ i =>
   have hlast':(∀a b cs,r.k≠.store a b cs)\/∀j r',R[j]?=some r'->i<j->X (k+1+j)=true->∀a b cs,r'.k≠.store a b cs:=by
    rcases yz with hq|hq
    .grind
    .exact .inr λj r' jf hj hX'=>hq (j+1) r' af aa af
   have:=λh=>ih (k:=k+1) (i:=i) (r:=r) af af hlast' h;have hf:(λj=>if j=k+1+i then true else X j)=(λj=>if j=k+(i+1)then true else X j):=af;rw[hf]at this;have it:(if k=k+(i+1)then true else X k)=X k:=if_neg aa;simp only[ss];rw[it];cases X k with
   |true =>
    simp only[cond_true];rw[zn,fj,<-zn,this,zn (a::_),fj,<-zn]
   |false=>exact this h
end Go.Abs
