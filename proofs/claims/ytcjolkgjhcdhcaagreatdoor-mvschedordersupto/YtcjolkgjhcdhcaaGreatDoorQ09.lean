/- Part 9 of a proof: AbsR, AbsS, AbsT, AbsU -/
import Derived.Test.YtcjolkgjhcdhcaaGreatDoorQ08
set_option linter.all false

namespace Go.Abs
section
variable {P:Program} {E:Ent}
def slotsOf:Nat→List AV→List (Nat×AV)
 | _,[]=>[]
 | k,x::xs=>(k,x)::slotsOf (k+1) xs
theorem lookT_slots:∀ {xs:List AV} {k i:Nat},qa3 (slotsOf k xs) i=if k≤i then (xs[i - k]?).getD .top else .top
 | [],k,i=>by simp [slotsOf,qa3]
 | x::xs,k,i=>by
  simp only [slotsOf,qa3]
  by_cases h:k=i
  · subst h;simp
  ·
   have:(k == i)=false:=by simpa using h
   rw [this,cond_false,lookT_slots]
   by_cases hk:k≤i
   ·
    rw [if_pos (by omega),if_pos hk,show i - k=(i - (k+1))+1 from by omega]
    simp
   · rw [if_neg (by omega),if_neg hk]
def resSV (P:Program) (e:Env):ResultVar→SV
 | .tmp t=>⟨True,qa3 e.t t⟩
 | .cell a t=>aLoadAt P t (qa3 e.t a) e.h
def mkRes:List AV→AV
 | [x]=>x
 | xs=>.tuple xs
def resSides (P:Program) (e:Env):List ResultVar→Prop
 | []=>True
 | r::l=>(resSV P e r).side∧resSides P e l
theorem resSides_mem {e:Env}:∀ {l:List ResultVar},resSides P e l→∀ r,r∈l→(resSV P e r).side
 | [],_,r,hr=>by cases hr
 | x::l,h,r,hr=>by
  cases hr with
  | head=>exact h.1
  | tail _ hr=>exact resSides_mem h.2 r hr
def RetOk (P:Program) (rs:List ResultVar) (n0:Nat) (R:AEnd→qae→Prop) (e:Env):Prop :=
 resSides P e rs∧∃ r' h',((mkRes (rs.map fun r=>(resSV P e r).val)).norm e.h).Wk r'∧r'.under h'.length=true∧hwk e.h h'∧n0≤h'.length∧hUnder h'.length h'=true∧R (.ret r') h'
def PanOk (n0:Nat) (R:AEnd→qae→Prop) (v:AV) (e:Env):Prop :=
 ∃ v' h',(v.norm e.h).Wk v'∧v'.under h'.length=true∧hwk e.h h'∧n0≤h'.length∧hUnder h'.length h'=true∧R (.panic v') h'
def fnPost (P:Program) (rs:List ResultVar) (n0:Nat) (R:AEnd→qae→Prop):AExit→Env→Prop
 | .ret,e | .normal,e=>RetOk P rs n0 R e
 | .panic v,e=>PanOk n0 R v e
 | .exit _,_=>False
theorem Ent.ok.withN {c:Ctx} {h:qae} {w:World} (k:E.ok c h w) (n:Nat):(⟨n,E.c,E.h,E.w⟩:Ent).ok c h w :=
 ⟨k.edom,k.ext,k.blk0,k.len,k.os,k.tape,k.output,k.size,k.frame,k.newobj,k.dold⟩
theorem finish {c:Ctx} {e:Env} {a:Act} {w:World} (s:Sim E.N c e a w) (k:E.ok c e.h w) {x r':AV} {v:Value} (hr:Rel c x v) {h':qae} (hw:(x.norm e.h).Wk r') (hu:r'.under h'.length=true) (hh:hwk e.h h') (hn:E.h.length≤h'.length)
  (hhu:hUnder h'.length h'=true):∃ c',HSim c' h' w∧E.ok c' h' w∧Rel c' r' v:=by
 obtain ⟨s1,k1⟩:=share_ok s.hs k
 have hr1:=norm_rel s.hs hr
 have sim:Sim 1 (c.share e.h w) ⟨[(0,x.norm e.h)],e.h⟩ ⟨#[v],[]⟩ w:=⟨rfl,rfl,fun i=>by
  cases i with
  | zero=>simpa [qa3] using hr1
  | succ i=>simp [qa3];exact .top _,s1⟩
 obtain ⟨c',s2,k2⟩:=Wk.mk (E:=⟨1,E.c,E.h,E.w⟩) (e:=⟨[(0,x.norm e.h)],e.h⟩) (e1:=⟨[(0,r')],h'⟩) hn hh hhu (by simp only [wkT,and_true];exact ⟨by simpa [qa3] using hw,hu⟩) _ _ _ sim (k1.withN 1)
 refine ⟨c',s2.hs,⟨k2.edom,k2.ext,k2.blk0,k2.len,k2.os,k2.tape,k2.output,k2.size,k2.frame,k2.newobj,k2.dold⟩,?_⟩
 have:=s2.tmps 0
 simpa [qa3] using this
open Classical in
theorem results_ok {c:Ctx} {e:Env} {a:Act} {w:World} (s:Sim E.N c e a w) (fn:Func) (hs:resSides P e fn.results.toList) :
  ∃ v,(results fn a.tmps).run P w=.ok v w∧Rel c (mkRes (fn.results.toList.map fun r=>(resSV P e r).val)) v:=by
 have one:∀ r,r∈fn.results.toList→∃ v,((match r with
   | .tmp t=>pure (a.tmps.getD t undef)
   | .cell b t=>do loadVar t (← asAddr (a.tmps.getD b undef)):Sem Value)).run P w=.ok v w∧Rel c (resSV P e r).val v:=by
  intro r hr
  have hside:=resSides_mem hs r hr
  cases r with
  | tmp t=>exact ⟨_,rfl,s.tmps t⟩
  | cell b t =>
   obtain ⟨v,hv,hrel⟩:=loadAt_ok (P:=P) (t:=t) s.hs (s.tmps b) hside
   refine ⟨v,?_,hrel⟩
   show ((do loadVar t (← asAddr (a.tmps.getD b undef)):Sem Value)).run P w=_
   generalize a.tmps.getD b undef=ad at hv ⊢
   simp only [Instr.loadAt,Sem.run_bind] at hv
   simp only [Sem.run_bind]
   cases ad with
   | pointer p =>
    cases p with
    | none=>simp [Instr.sureAddr] at hv
    | some p=>simpa [Instr.sureAddr,asAddr] using hv
   | _=>simp [Instr.sureAddr] at hv
 obtain ⟨g,hg⟩:∃ g:ResultVar→Value,∀ r,r∈fn.results.toList→((match r with
   | .tmp t=>pure (a.tmps.getD t undef)
   | .cell b t=>do loadVar t (← asAddr (a.tmps.getD b undef)):Sem Value)).run P w=.ok (g r) w∧Rel c (resSV P e r).val (g r):=by
  refine ⟨fun r=>if hr:r∈fn.results.toList then (one r hr).choose else undef,fun r hr=>?_⟩
  simp only [dif_pos hr]
  exact (one r hr).choose_spec
 have hm:=run_mapM_array (P:=P) (w:=w) (f:=fun r=>(match r with
   | .tmp t=>pure (a.tmps.getD t undef)
   | .cell b t=>do loadVar t (← asAddr (a.tmps.getD b undef)):Sem Value)) (g:=g) fn.results (fun r hr=>(hg r hr).1)
 have hrun:(results fn a.tmps).run P w=.ok (if h:(fn.results.map g).size=1 then (fn.results.map g)[0] else .tuple (fn.results.map g)) w:=by
  unfold results
  rw [Sem.run_bind]
  erw [hm]
  rfl
 refine ⟨_,hrun,?_⟩
 by_cases h1:(fn.results.map g).size=1
 ·
  rw [dif_pos h1]
  have h1':fn.results.toList.length=1:=by simpa using h1
  obtain ⟨r,hr⟩:=List.length_eq_one_iff.1 h1'
  have h0:fn.results = #[r]:=Array.ext' hr
  simp only [hr,List.map_cons,List.map_nil,mkRes]
  have:(fn.results.map g)[0]=g r:=by simp [h0]
  rw [this]
  exact (hg r (by simp [hr])).2
 ·
  rw [dif_neg h1]
  have hmk:mkRes (fn.results.toList.map fun r=>(resSV P e r).val)=.tuple (fn.results.toList.map fun r=>(resSV P e r).val):=by
   generalize hl:fn.results.toList=l
   have hne:l.length≠1:=by rw [← hl];simpa using h1
   match l,hne with
   | [],_=>rfl
   | [x],h=>exact (h rfl).elim
   | x::y::l,_=>rfl
  rw [hmk]
  refine .tuple _ _ (by simp) fun j x v hx hv=>?_
  simp only [List.getElem?_map,Option.map_eq_some_iff] at hx
  obtain ⟨r,hr,rfl⟩:=hx
  simp only [Array.getElem?_map,Option.map_eq_some_iff] at hv
  obtain ⟨r',hr',rfl⟩:=hv
  have:r=r':=by simpa [hr'] using hr.symm
  subst this
  exact (hg r (List.mem_of_getElem? hr)).2
theorem sim_enter {N:Nat} {c:Ctx} {h:qae} {w:World} (hs:HSim c h w) {args:List AV} {vs:Array Value} (ha:RelL c args vs) (hN:args.length≤N) :
  Sim N c ⟨slotsOf 0 args,h⟩ { tmps:=vs++Array.replicate (N - vs.size) undef,defers:=[] } w:=by
 refine ⟨rfl,by simp [ha.1];omega,fun i=>?_,hs⟩
 rw [lookT_slots,if_pos (Nat.zero_le _),Nat.sub_zero]
 by_cases hi:i<args.length
 ·
  have hi':i<vs.size:=by rw [ha.1];exact hi
  have e1:args[i]?=some args[i]:=by simp [hi]
  rw [e1]
  simp only [Option.getD_some]
  have e2:(vs++Array.replicate (N - vs.size) undef).getD i undef=vs[i]:=by
   rw [Array.getD_eq_getD_getElem?,Array.getElem?_append_left hi'];simp [hi']
  rw [e2]
  exact ha.2 i _ _ e1 (by simp [hi'])
 ·
  rw [List.getElem?_eq_none (by omega)]
  exact .top _
theorem acalls_intro {f:FuncId} {fn:Func} {code:Code} {args:List AV} {h:qae} {R:AEnd→qae→Prop} (hf:P.funcs[f]?=some fn) (hb:fn.body=some code) (hnm:(fn.name == "runtime.NumGoroutine")=false) (hN:args.length≤fn.ntmps)
  (body:∀ E:Ent,E.N=fn.ntmps→E.h=h→hUnder h.length h=true→AWp P E code (fnPost P fn.results.toList h.length R) ⟨slotsOf 0 args,h⟩):ACalls P f args h R:=by
 refine ⟨⟨fn,hf,by rw [hb];rfl,hnm⟩,fun c w vs hs ha=>?_⟩
 have ok0:=Ent.ok.refl fn.ntmps hs
 refine calls_of_wp hf hb (wp_mono (body ⟨fn.ntmps,c,h,w⟩ rfl rfl hs.hUnder c _ w ⟨rfl,by simp [ha.1];omega,fun i=>?_,hs⟩ ok0) ?_)
 ·
  rw [lookT_slots,if_pos (Nat.zero_le _),Nat.sub_zero]
  by_cases hi:i<args.length
  ·
   have hi':i<vs.size:=by rw [ha.1];exact hi
   have e1:args[i]?=some args[i]:=by simp [hi]
   rw [e1]
   simp only [Option.getD_some]
   have e2:(vs++Array.replicate (fn.ntmps - vs.size) undef).getD i undef=vs[i]:=by
    rw [Array.getD_eq_getD_getElem?,Array.getElem?_append_left hi'];simp [hi']
   rw [e2]
   exact ha.2 i _ _ e1 (by simp [hi'])
  ·
   rw [List.getElem?_eq_none (by omega)]
   exact .top _
 ·
  rintro ex a' w' ⟨x',e',c',hq,hx,hs',ok'⟩
  have fin:∀ e'':Exit,(e''=.ret∨e''=.normal)→RetOk P fn.results.toList h.length R e'→bodyPost P fn (fun e w'=>∃ r h' c',R r h'∧EndR c' r e∧HSim c' h' w'∧(⟨0,c,h,w⟩:Ent).ok c' h' w') e'' a' w':=by
   rintro e'' he ⟨hside,r',h',h1,h2,h3,h4,h5,hR⟩
   obtain ⟨v,hv,hr⟩:=results_ok (E:=⟨fn.ntmps,c,h,w⟩) (P:=P) hs' fn hside
   obtain ⟨c2,g1,g2,g3⟩:=finish (E:=⟨fn.ntmps,c,h,w⟩) hs' ok' hr h1 h2 h3 h4 h5
   rcases he with rfl | rfl
   · exact ⟨hs'.defers,v,hv,.ret r',h',c2,hR,g3,g1,g2.withN 0⟩
   · exact ⟨hs'.defers,v,hv,.ret r',h',c2,hR,g3,g1,g2.withN 0⟩
  cases x' with
  | normal=>cases ex<;>simp only [XR] at hx;exact fin _ (.inr rfl) hq
  | exit i=>exact hq.elim
  | ret=>cases ex<;>simp only [XR] at hx;exact fin _ (.inl rfl) hq
  | panic x =>
   cases ex with
   | panic ch =>
    cases ch with
    | nil=>simp [XR] at hx
    | cons p l =>
     cases l with
     | nil =>
      obtain ⟨u,r,g⟩:=p
      cases r<;>cases g<;>simp only [XR] at hx
      obtain ⟨v',h',h1,h2,h3,h4,h5,hR⟩:=hq
      obtain ⟨c2,g1,g2,g3⟩:=finish (E:=⟨fn.ntmps,c,h,w⟩) hs' ok' hx h1 h2 h3 h4 h5
      exact ⟨hs'.defers,.panic v',h',c2,hR,g3,g1,g2.withN 0⟩
     | cons=>simp [XR] at hx
   | _=>simp [XR] at hx
def purePost (P:Program) (rs:List ResultVar) (r:AV) (h:qae):AExit→Env→Prop
 | .ret,e | .normal,e=>resSides P e rs∧(mkRes (rs.map fun r=>(resSV P e r).val)).norm e.h=r∧hwk e.h h
 | _,_=>False
theorem apure_intro {f:FuncId} {fn:Func} {code:Code} {args:List AV} {r:AV} (hf:P.funcs[f]?=some fn) (hb:fn.body=some code) (hnm:(fn.name == "runtime.NumGoroutine")=false) (hN:args.length≤fn.ntmps) (hr:r.under 0=true)
  (body:∀ (E:Ent) (h:qae),E.N=fn.ntmps→E.h=h→hUnder h.length h=true→AWp P E code (purePost P fn.results.toList r h) ⟨slotsOf 0 args,h⟩):APure P f args r:=fun h =>
 acalls_intro hf hb hnm hN fun E hEN hEh hu=>(body E h hEN hEh hu).mono fun x e hq=>by
  cases x with
  | ret=>exact ⟨hq.1,r,h,hq.2.1▸.refl _,AV.under_mono (Nat.zero_le _) r hr,hq.2.2,Nat.le_refl _,hu,rfl,rfl⟩
  | normal=>exact ⟨hq.1,r,h,hq.2.1▸.refl _,AV.under_mono (Nat.zero_le _) r hr,hq.2.2,Nat.le_refl _,hu,rfl,rfl⟩
  | exit i=>exact hq.elim
  | panic v=>exact hq.elim
theorem acalls_pure {f:FuncId} {args:List AV} {r:AV} (h:APure P f args r) {hp:qae} {R:AEnd→qae→Prop} (k:R (.ret r) hp):ACalls P f args hp R :=
 (h hp).mono fun e h' he=>by obtain ⟨rfl,rfl⟩:=he;exact k
end
end Go.Abs

namespace Go.Abs
@[simp] theorem liftK_bool (b:Bool):liftK (.bool b)=.val (.bool b):=rfl
@[simp] theorem liftK_int (k:IntKind) (n:Int):liftK (.int k n)=.val (.int k n):=rfl
@[simp] theorem liftK_string (l:List UInt8) (h:l.length≤68719476736):liftK (.string ⟨l.toArray⟩)=.val (.string ⟨l.toArray⟩):=by
 have:(⟨l.toArray⟩:ByteArray).size≤68719476736:=by simpa [ByteArray.size] using h
 simp [liftK,liftC,this]
@[simp] theorem liftK_nilIface:liftK .nilIface=.val .nilIface:=rfl
@[simp] theorem liftK_nil:liftK (.slice none 0 0)=.nils:=rfl
@[simp] theorem liftK_agg (vs:List Value):liftK (.agg ⟨vs⟩)=match oneList vs with
  | true=>.agg (vs.map liftC)
  | false=>.val (.agg ⟨vs⟩):=rfl
@[simp] theorem liftC_bool (b:Bool):liftC (.bool b)=.val (.bool b):=rfl
@[simp] theorem liftC_int (k:IntKind) (n:Int):liftC (.int k n)=.val (.int k n):=rfl
@[simp] theorem liftC_string (l:List UInt8) (h:l.length≤68719476736):liftC (.string ⟨l.toArray⟩)=.val (.string ⟨l.toArray⟩):=by
 have:(⟨l.toArray⟩:ByteArray).size≤68719476736:=by simpa [ByteArray.size] using h
 simp [liftC,this]
@[simp] theorem liftC_nil:liftC (.slice none 0 0)=.nils:=rfl
@[simp] theorem then_normal (K:Env→Prop) (Q:AExit→Env→Prop) (e:Env):AExit.then K Q .normal e=K e:=rfl
@[simp] theorem then_ret (K:Env→Prop) (Q:AExit→Env→Prop) (e:Env):AExit.then K Q .ret e=Q .ret e:=rfl
@[simp] theorem then_exit (K:Env→Prop) (Q:AExit→Env→Prop) (i:Nat) (e:Env):AExit.then K Q (.exit i) e=Q (.exit i) e:=rfl
@[simp] theorem then_panic (K:Env→Prop) (Q:AExit→Env→Prop) (v:AV) (e:Env):AExit.then K Q (.panic v) e=Q (.panic v) e:=rfl
@[simp] theorem inBlock_normal (i:Nat) (Q:AExit→Env→Prop) (e:Env):AExit.inBlock i Q .normal e=Q .normal e:=rfl
@[simp] theorem inBlock_ret (i:Nat) (Q:AExit→Env→Prop) (e:Env):AExit.inBlock i Q .ret e=Q .ret e:=rfl
@[simp] theorem inBlock_exit (i j:Nat) (Q:AExit→Env→Prop) (e:Env):AExit.inBlock i Q (.exit j) e=if j=i then Q .normal e else Q (.exit j) e:=rfl
@[simp] theorem inBlock_panic (i:Nat) (Q:AExit→Env→Prop) (v:AV) (e:Env):AExit.inBlock i Q (.panic v) e=Q (.panic v) e:=rfl
@[simp] theorem hwk_self (h:qae):hwk h h=True:=eq_true (hwk.refl h)
@[simp] theorem hwk_more (h l:qae):hwk (h++l) h=True:=eq_true (hwk.app0 h)
@[simp] theorem wk_self (x:AV):x.Wk x=True:=eq_true (.refl x)
@[simp] theorem wk_top (x:AV):x.Wk .top=True:=eq_true (.top x)
@[simp] theorem wk_nils:AV.nils.Wk (.slice [])=True:=eq_true .nils
theorem pickV_true {y z:AV}:pickV (.val (.bool true)) y z=y.strip:=by
 unfold pickV
 simp only [AV.strip]
 split<;>simp_all
theorem pickV_false {y z:AV}:pickV (.val (.bool false)) y z=z.strip:=by
 unfold pickV
 simp only [AV.strip]
 split<;>simp_all
theorem pickV_o1 {g:Bool} {v:Value} {y z:AV}:pickV (.opt g (.val v)) y z=pickV (.val v) y z:=rfl
theorem pickV_o2 {g:Bool} {v:Value} {x z:AV}:pickV x (.opt g (.val v)) z=pickV x (.val v) z:=rfl
theorem pickV_o3 {g:Bool} {v:Value} {x y:AV}:pickV x y (.opt g (.val v))=pickV x y (.val v):=rfl
theorem pickV_b {b p q:Bool}:pickV (.val (.bool b)) (.val (.bool p)) (.val (.bool q))=.val (.bool (bif b then p else q)):=rfl
@[simp] theorem RowsLen.nil (sz:Nat):RowsLen sz []=True:=eq_true (fun _ h=>by cases h)
@[simp] theorem RowsLen.cons (sz:Nat) (r:List AV) (l:List (List AV)):RowsLen sz (r::l)=(r.length=sz∧RowsLen sz l):=by simp [RowsLen]
@[simp] theorem RowsLen.map {α:Type} (sz:Nat) (f:α→List AV) (l:List α) (h:∀ x,(f x).length=sz):RowsLen sz (l.map f)=True:=by simp [RowsLen,h]
@[simp] theorem RowsLen.take (sz n:Nat) (l:List (List AV)) (h:RowsLen sz l):RowsLen sz (l.take n)=True:=eq_true (fun r hr=>h r (List.mem_of_mem_take hr))
@[simp] theorem RowsLen.drop (sz n:Nat) (l:List (List AV)) (h:RowsLen sz l):RowsLen sz (l.drop n)=True:=eq_true (fun r hr=>h r (List.mem_of_mem_drop hr))
@[simp] theorem RowsLen.app (sz:Nat) (l l':List (List AV)):RowsLen sz (l++l')=(RowsLen sz l∧RowsLen sz l'):=by
 simp only [RowsLen,List.mem_append,eq_iff_iff]
 exact ⟨fun h=>⟨fun r hr=>h r (.inl hr),fun r hr=>h r (.inr hr)⟩,fun h r hr=>hr.elim (h.1 r) (h.2 r)⟩
@[simp] theorem take_map_len {α β:Type} (f:α→β) (l:List α):(l.map f).take l.length=l.map f:=List.take_of_length_le (by simp)
attribute [go_sem] pickV_true pickV_false pickV_o1 pickV_o2 pickV_o3 pickV_b
attribute [go_sem] oneList opsF stepF gB dstOk isEff qa8 optV Env.put qaw Env.get AV.has Env.getS AV.strip qa3 slotsOf opEff pickOk Op.operands Call.operands
 aInt aStr aBin fitA eqA aLookup AV.isInt AV.isIface aLoad aLoadAt aField qda aIndex aLen boundAV aSlice aMin aMin3 aMax aConv aAssert TK.agg AV.cells AV.cellsOk AV.one AV.isData litRows srcRows aAppend fillL places SV.no Value.oneCell'
 purePost fnPost RetOk PanOk resSides resSV mkRes AV.norm qa6 AV.under qav wkT wkL
end Go.Abs

namespace Go.Abs
inductive DK where
 | quiet (rd:Option Nat)
 | fresh (xs:List AV)
 | store (i off:Nat) (cs:List AV)
structure DR where
 dst:Option Tmp
 res:AV
 k:DK
instance:Inhabited DR:=⟨⟨none,.top,.quiet none⟩⟩
def DR.next (r:DR) (e:Env):Env :=
 match r.k with
 | .fresh xs=>({ e with h:=e.h++[.cells xs] }:Env).put r.dst r.res
 | _=>e.put r.dst r.res
def rdOf (e:Env):Op→Option Nat
 | .load _ a=>match e.getS a with
  | .ptr i _=>some i
  | _=>none
 | _=>none
def AObj.kept:AObj→Bool
 | .raw .. | .uarr ..=>true
 | _=>false
def SameRaw (h h':qae):Prop:=∀ (i:Nat) (o:AObj),o.kept=true→h[i]?=some o→h'[i]?=some o
def APureAt (P:Program) (f:FuncId) (args:List AV) (r:AV) (h:qae):Prop:=∀ h',SameRaw h h'→ACalls P f args h' fun e h''=>e=.ret r∧h''=h'
theorem APure.at {P:Program} {f:FuncId} {args:List AV} {r:AV} (k:APure P f args r) (h:qae):APureAt P f args r h:=fun h' _=>k h'
def isStore:Op→Bool
 | .store ..=>true
 | _=>false
def stepD (P:Program) (N:Nat) (ds:List (Option Tmp)) (o:Oper) (e:Env) (K:DR→Prop):Prop :=
 match gB ds e o.guard with
 | none=>False
 | some G =>
  dstOk N o.dst ∧
  match o.op with
  | .pick x y z=>pickOk G (e.get x) (e.get y) (e.get z)∧K ⟨o.dst,optV o.guard G (pickV (e.get x) (e.get y) (e.get z)),.quiet none⟩
  | .box _ x=>o.guard=none∧qaw e true [x]∧(e.getS x).cellsOk=true∧K ⟨o.dst,.ptr e.h.length 0,.fresh (e.getS x).cells⟩
  | .alloc T=>o.guard=none∧qal P T≠.other∧K ⟨o.dst,.ptr e.h.length 0,.fresh (qa0 P T)⟩
  | .store T a x=>o.guard=none∧o.dst=none∧qaw e true [a,x]∧qal P T≠.other∧(e.getS x).cellsOk=true∧(e.getS x).cells.length=qau P T ∧
   match e.getS a with
   | .ptr i off=>match e.h[i]? with
    | some (.cells xs)=>off+(e.getS x).cells.length≤xs.length∧K ⟨none,.top,.store i off (e.getS x).cells⟩
    | _=>False
   | _=>False
  | .buildSlice T n parts =>
   match qal P T with
   | .slice el sz=>match litRows e.h sz 0 (parts.toList.map fun p=>(p.1,e.getS p.2)) with
    | some rows=>G=true∧qaw e true (parts.toList.map (·.2))∧rows.length=n∧0<sz∧n * sz≤16777216∧qal P el≠.other∧qau P el=sz∧K ⟨o.dst,optV o.guard G (.slice rows),.quiet none⟩
    | none=>False
   | _=>False
  | .call { callee:=.value f,args,.. }=>match e.getS f with
   | .fn (.func fid) first caps=>∃ r,(G=true→qaw e true (f::args.toList)∧APureAt P fid (qa6 e.h (first++args.toList.map e.getS++caps)) r e.h)∧K ⟨o.dst,optV o.guard G r,.quiet none⟩
   | _=>False
  | op=>(G=true→qaw e true op.operands.toList∧(qa8 P e.getS e.h op).side)∧K ⟨o.dst,optV o.guard G (qa8 P e.getS e.h op).val,.quiet (rdOf e op)⟩
def opsD (P:Program) (N:Nat):List (Option Tmp)→List Oper→Env→List DR→(List DR→Env→Prop)→Prop
 | _,[],e,acc,K=>K acc e
 | ds,o::l,e,acc,K=>stepD P N ds o e fun r=>opsD P N (ds++[o.dst]) l (r.next e) (acc++[r]) K
theorem stepD_wit {P:Program} {N:Nat} {ds:List (Option Tmp)} {o:Oper} {e:Env} {K:DR→Prop} (h:stepD P N ds o e K):∃ r,stepD P N ds o e (· = r)∧K r:=by
 unfold stepD at h ⊢
 split at h
 · exact h.elim
 ·
  rename_i G hG
  simp only [hG]
  obtain ⟨hd,h⟩:=h
  split at h
  · exact ⟨_,⟨hd,h.1,rfl⟩,h.2⟩
  · exact ⟨_,⟨hd,h.1,h.2.1,h.2.2.1,rfl⟩,h.2.2.2⟩
  · exact ⟨_,⟨hd,h.1,h.2.1,rfl⟩,h.2.2⟩
  ·
   rename_i T a x hop
   obtain ⟨h1,h2,h3,h4,h5,h6,h7⟩:=h
   split at h7
   ·
    rename_i i off ha
    split at h7
    ·
     rename_i xs hi
     exact ⟨⟨none,.top,.store i off (e.getS x).cells⟩,⟨hd,h1,h2,h3,h4,h5,h6,by simp only [ha,hi];exact ⟨h7.1,trivial⟩⟩,h7.2⟩
    · exact h7.elim
   · exact h7.elim
  ·
   rename_i T n parts hop
   split at h
   ·
    rename_i el sz hk
    split at h
    ·
     rename_i rows hr
     obtain ⟨h1,h2,h3,h4,h5,h6,h7,h8⟩:=h
     exact ⟨⟨o.dst,optV o.guard G (.slice rows),.quiet none⟩,⟨hd,by simp only [hk,hr];exact ⟨h1,h2,h3,h4,h5,h6,h7,trivial⟩⟩,h8⟩
    · exact h.elim
   · exact h.elim
  ·
   rename_i f args ts hop
   split at h
   ·
    rename_i fid first caps hf
    obtain ⟨r,h1,h2⟩:=h
    exact ⟨⟨o.dst,optV o.guard G r,.quiet none⟩,⟨hd,⟨r,h1,rfl⟩⟩,h2⟩
   · exact h.elim
  · exact ⟨_,⟨hd,h.1,rfl⟩,h.2⟩
def qar (e:Env):List DR→Env
 | []=>e
 | r::l=>qar (r.next e) l
theorem opsD_wit {P:Program} {N:Nat}:∀ {l:List Oper} {ds:List (Option Tmp)} {e:Env} {acc:List DR} {K:List DR→Env→Prop},opsD P N ds l e acc K →
  ∃ R:List DR,R.length=l.length∧(∀ (k:Nat) (o:Oper),l[k]?=some o→stepD P N (ds++(l.take k).map (·.dst)) o (qar e (R.take k)) (fun r=>R[k]?=some r))∧K (acc++R) (qar e R)
 | [],ds,e,acc,K,h=>⟨[],rfl,by simp,by simpa [qar,opsD] using h⟩
 | o::l,ds,e,acc,K,h=>by
  obtain ⟨r,h1,h2⟩:=stepD_wit (K:=fun r=>opsD P N (ds++[o.dst]) l (r.next e) (acc++[r]) K) h
  obtain ⟨R,hl,hk,hK⟩:=opsD_wit h2
  refine ⟨r::R,by simp [hl],fun k o' ho=>?_,by simpa [qar] using hK⟩
  cases k with
  | zero =>
   simp at ho
   subst ho
   simpa [qar,eq_comm] using h1
  | succ k =>
   have:=hk k o' (by simpa using ho)
   simpa [qar,List.append_assoc] using this
def qbp:List DR→qae→qae
 | [],h=>h
 | r::l,h=>match r.k with
  | .store i off cs=>qbp l (match h[i]? with
   | some (.cells xs)=>h.set i (.cells (xs.take off++cs++xs.drop (off+cs.length)))
   | _=>h)
  | _=>qbp l h
end Go.Abs

namespace Go.Abs
def slotX (X:Nat→Bool) (t:Tmp):Nat→List DR→AV→AV
 | _,[],x=>x
 | k,r::l,x=>slotX X t (k+1) l (bif X k&&decide (r.dst=some t) then r.res else x)
def qa5 (X:Nat→Bool):Nat→List DR→qae
 | _,[]=>[]
 | k,r::l=>match r.k with
  | .fresh xs=>(bif X k then AObj.cells xs else .none)::qa5 X (k+1) l
  | _=>qa5 X (k+1) l
def selX (X:Nat→Bool):Nat→List DR→List DR
 | _,[]=>[]
 | k,r::l=>bif X k then r::selX X (k+1) l else selX X (k+1) l
theorem qb0 {X Y:Nat→Bool} {t:Tmp}:∀ {l:List DR} {k:Nat} {x:AV},(∀ j r,l[j]?=some r→r.dst=some t→X (k+j)=Y (k+j))→slotX X t k l x=slotX Y t k l x
 | [],_,_,_=>rfl
 | r::l,k,x,h=>by
  simp only [slotX]
  have h0:(X k&&decide (r.dst=some t))=(Y k&&decide (r.dst=some t)):=by
   by_cases hd:r.dst=some t
   ·
    have:=h 0 r rfl hd
    simp only [Nat.add_zero] at this
    rw [this]
   · simp [hd]
  rw [h0]
  exact qb0 fun j r' hr hd=>by
   have:=h (j+1) r' (by simpa using hr) hd
   rwa [show k+(j+1)=k+1+j from by omega] at this
theorem slotX_none {X:Nat→Bool} {t:Tmp}:∀ {l:List DR} {k:Nat} {x:AV},(∀ j r,l[j]?=some r→X (k+j)=true→r.dst≠some t)→slotX X t k l x=x
 | [],_,_,_=>rfl
 | r::l,k,x,h=>by
  have h0:(X k&&decide (r.dst=some t))=false:=by
   by_cases hX:X k=true
   · simp [h 0 r rfl (by simpa using hX)]
   · simp [hX]
  simp only [slotX,h0,cond_false]
  exact slotX_none fun j r' hr hX=>h (j+1) r' (by simpa using hr) (by rwa [show k+(j+1)=k+1+j from by omega])
theorem slotX_add {X:Nat→Bool} {t:Tmp}:∀ {l:List DR} {k i:Nat} {r:DR} {x:AV},l[i]?=some r→(∀ j r',l[j]?=some r'→r'.dst=r.dst→r.dst≠none→j=i) →
  slotX (fun j=>if j=k+i then true else X j) t k l x=if r.dst=some t then r.res else slotX X t k l x
 | [],_,_,_,_,h,_=>by simp at h
 | a::l,k,0,r,x,h,hu=>by
  simp at h
  subst h
  simp only [slotX,Nat.add_zero,if_true,Bool.true_and]
  have hrest:∀ y,slotX (fun j=>if j=k then true else X j) t (k+1) l y=slotX X t (k+1) l y:=fun y=>qb0 fun j r' _ _=>by
   rw [if_neg (by omega)]
  rw [hrest]
  by_cases hd:a.dst=some t
  ·
   rw [if_pos hd,decide_eq_true hd,cond_true]
   exact slotX_none fun j r' hr' _ hd'=>by
    have:=hu (j+1) r' (by simpa using hr') (by rw [hd',hd]) (by rw [hd];simp)
    omega
  · rw [if_neg hd,decide_eq_false hd,cond_false,Bool.and_false,cond_false]
 | a::l,k,i+1,r,x,h,hu=>by
  have hne:(if k=k+(i+1) then true else X k)=X k:=if_neg (by omega)
  simp only [slotX]
  rw [hne]
  have hf:(fun j=>if j=k+(i+1) then true else X j)=(fun j=>if j=k+1+i then true else X j):=by
   funext j;rw [show k+(i+1)=k+1+i from by omega]
  rw [hf]
  exact slotX_add (X:=X) (t:=t) (k:=k+1) (l:=l) (i:=i) (r:=r) (by simpa using h) fun j r' hr' hd hn=>by
   have:=hu (j+1) r' (by simpa using hr') hd hn
   omega
theorem slotX_take {X:Nat→Bool} {t:Tmp}:∀ (R:List DR) (n k:Nat) (x:AV),slotX X t k (R.take n) x=slotX (fun j=>decide (j<k+n)&&X j) t k R x
 | [],n,k,x=>by simp [slotX]
 | r::R,0,k,x=>by
  rw [List.take_zero,slotX_none (l:=r::R)]
  · rfl
  · intro j r' _ hX;simp at hX;omega
 | r::R,n+1,k,x=>by
  simp only [List.take_succ_cons,slotX]
  rw [slotX_take R n (k+1)]
  have h1:(decide (k<k+(n+1))&&X k)=X k:=by simp
  rw [h1]
  exact qb0 fun j _ _ _=>by rw [show k+1+n=k+(n+1) from by omega]
theorem lookT_envAt {e:Env} {t:Tmp}:∀ (R:List DR),qa3 (qar e R).t t=slotX (fun _=>true) t 0 R (qa3 e.t t):=by
 intro R
 have gen:∀ (R:List DR) (k:Nat) (e:Env),qa3 (qar e R).t t=slotX (fun _=>true) t k R (qa3 e.t t):=by
  intro R
  induction R with
  | nil=>intro k e;rfl
  | cons r R ih =>
   intro k e
   simp only [qar,slotX,Bool.true_and]
   rw [ih (k+1)]
   congr 1
   have hput:∀ e':Env,qa3 (e'.put r.dst r.res).t t=bif decide (r.dst=some t) then r.res else qa3 e'.t t:=fun e'=>by
    cases hd:r.dst with
    | none=>simp [Env.put]
    | some d =>
     simp only [Env.put,qa3,Option.some.injEq]
     by_cases h:d=t
     · subst h;simp
     ·
      have:(d == t)=false:=by simpa using h
      rw [this,decide_eq_false h]
   unfold DR.next
   split<;>exact hput _
 exact gen R 0 e
theorem envAt_h {e:Env} (R:List DR):(qar e R).h=e.h++qa5 (fun _=>true) 0 R:=by
 have gen:∀ (R:List DR) (k:Nat) (e:Env),(qar e R).h=e.h++qa5 (fun _=>true) k R:=by
  intro R
  induction R with
  | nil=>intro k e;simp [qar,qa5]
  | cons r R ih =>
   intro k e
   simp only [qar]
   rw [ih (k+1)]
   have hput:∀ (e':Env) d v,(e'.put d v).h=e'.h:=fun e' d v=>by cases d<;>rfl
   unfold DR.next
   simp only [qa5]
   cases r.k<;>simp [hput]
 exact gen R 0 e
def nFresh (R:List DR) (k:Nat):Nat:=(qa5 (fun _=>true) 0 (R.take k)).length
theorem freshX_get {X:Nat→Bool}:∀ (R:List DR) (k i:Nat) (r:DR) (xs:List AV),R[i]?=some r→r.k=.fresh xs →
  (qa5 X k R)[(qa5 (fun _=>true) k (R.take i)).length]?=some (bif X (k+i) then .cells xs else .none)
 | [],_,_,_,_,h,_=>by simp at h
 | a::R,k,0,r,xs,h,hk=>by
  simp at h
  subst h
  simp [qa5,hk]
 | a::R,k,i+1,r,xs,h,hk=>by
  have:=freshX_get (X:=X) R (k+1) i r xs (by simpa using h) hk
  rw [show k+1+i=k+(i+1) from by omega] at this
  simp only [List.take_succ_cons,qa5]
  cases a.k with
  | fresh ys=>simpa using this
  | _=>exact this
theorem qcc {X:Nat→Bool}:∀ (R:List DR) (k j:Nat) (o:AObj),(qa5 X k R)[j]?=some o→∃ i r xs,R[i]?=some r∧r.k=.fresh xs∧(qa5 (fun _=>true) k (R.take i)).length=j∧o=bif X (k+i) then .cells xs else .none
 | [],_,_,_,h=>by simp [qa5] at h
 | a::R,k,j,o,h=>by
  simp only [qa5] at h
  cases hk:a.k with
  | fresh ys =>
   rw [hk] at h
   cases j with
   | zero =>
    simp at h
    exact ⟨0,a,ys,rfl,hk,by simp [qa5],by rw [← h];simp⟩
   | succ j =>
    obtain ⟨i,r,xs,h1,h2,h3,h4⟩:=qcc R (k+1) j o (by simpa using h)
    exact ⟨i+1,r,xs,by simpa using h1,h2,by simp only [List.take_succ_cons,qa5,hk,List.length_cons,h3],by rw [h4,show k+1+i=k+(i+1) from by omega]⟩
  | quiet rd =>
   rw [hk] at h
   obtain ⟨i,r,xs,h1,h2,h3,h4⟩:=qcc R (k+1) j o h
   exact ⟨i+1,r,xs,by simpa using h1,h2,by simp only [List.take_succ_cons,qa5,hk];exact h3,by rw [h4,show k+1+i=k+(i+1) from by omega]⟩
  | store a1 a2 a3 =>
   rw [hk] at h
   obtain ⟨i,r,xs,h1,h2,h3,h4⟩:=qcc R (k+1) j o h
   exact ⟨i+1,r,xs,by simpa using h1,h2,by simp only [List.take_succ_cons,qa5,hk];exact h3,by rw [h4,show k+1+i=k+(i+1) from by omega]⟩
theorem freshX_add {X:Nat→Bool}:∀ (R:List DR) (k i:Nat) (r:DR) (xs:List AV),R[i]?=some r→r.k=.fresh xs →
  qa5 (fun j=>if j=k+i then true else X j) k R=(qa5 X k R).set (qa5 (fun _=>true) k (R.take i)).length (.cells xs)
 | [],_,_,_,_,h,_=>by simp at h
 | a::R,k,0,r,xs,h,hk=>by
  simp at h
  subst h
  simp only [qa5,hk,Nat.add_zero,if_true,List.take_zero,List.length_nil,List.set_cons_zero,List.cons.injEq,cond_true,true_and]
  have:∀ (R:List DR) (m:Nat),k<m→qa5 (fun j=>if j=k then true else X j) m R=qa5 X m R:=by
   intro R
   induction R with
   | nil=>intro m _;rfl
   | cons b R ih =>
    intro m hm
    have hne:(if m=k then true else X m)=X m:=if_neg (by omega)
    simp only [qa5]
    rw [hne,ih (m+1) (by omega)]
  exact this R (k+1) (by omega)
 | a::R,k,i+1,r,xs,h,hk=>by
  have:=freshX_add (X:=X) R (k+1) i r xs (by simpa using h) hk
  rw [show k+1+i=k+(i+1) from by omega] at this
  have hne:(if k=k+(i+1) then true else X k)=X k:=if_neg (by omega)
  simp only [List.take_succ_cons,qa5]
  cases a.k with
  | fresh ys =>
   simp only [List.length_cons,List.set_cons_succ]
   rw [this,hne]
  | _=>exact this
theorem freshX_same {X:Nat→Bool}:∀ (R:List DR) (k i:Nat) (r:DR),R[i]?=some r→(∀ xs,r.k≠.fresh xs)→qa5 (fun j=>if j=k+i then true else X j) k R=qa5 X k R
 | [],_,_,_,_,_=>rfl
 | a::R,k,0,r,h,hk=>by
  simp at h
  subst h
  have:∀ (R:List DR) (m:Nat),k<m→qa5 (fun j=>if j=k then true else X j) m R=qa5 X m R:=by
   intro R
   induction R with
   | nil=>intro m _;rfl
   | cons b R ih =>
    intro m hm
    have hne:(if m=k then true else X m)=X m:=if_neg (by omega)
    simp only [qa5]
    rw [hne,ih (m+1) (by omega)]
  simp only [qa5,Nat.add_zero]
  cases hak:a.k with
  | fresh xs=>exact (hk xs hak).elim
  | _=>exact this R (k+1) (by omega)
 | a::R,k,i+1,r,h,hk=>by
  have:=freshX_same (X:=X) R (k+1) i r (by simpa using h) hk
  rw [show k+1+i=k+(i+1) from by omega] at this
  have hne:(if k=k+(i+1) then true else X k)=X k:=if_neg (by omega)
  simp only [qa5]
  rw [this,hne]
def splice (xs:List AV) (off:Nat) (cs:List AV):List AV:=xs.take off++cs++xs.drop (off+cs.length)
def stepS (r:DR) (h:qae):qae :=
 match r.k with
 | .store i off cs=>match h[i]? with
  | some (.cells xs)=>h.set i (.cells (splice xs off cs))
  | _=>h
 | _=>h
theorem qbd:∀ (l:List DR) (h:qae),qbp l h=l.foldl (fun h r=>stepS r h) h
 | [],_=>rfl
 | r::l,h=>by
  simp only [qbp,List.foldl_cons,stepS]
  cases r.k with
  | store i off cs=>exact qbd l _
  | _=>exact qbd l _
theorem stepS_len (r:DR) (h:qae):(stepS r h).length=h.length:=by
 unfold stepS
 split
 · split<;>simp
 · rfl
theorem applyS_len (l:List DR) (h:qae):(qbp l h).length=h.length:=by
 rw [qbd]
 induction l generalizing h with
 | nil=>rfl
 | cons r l ih=>rw [List.foldl_cons,ih,stepS_len]
theorem stepS_other {r:DR} {h:qae} {i:Nat} (hno:∀ off cs,r.k≠.store i off cs):(stepS r h)[i]?=h[i]?:=by
 unfold stepS
 split
 ·
  rename_i i' off cs hk
  split
  ·
   have:i'≠i:=fun e=>hno off cs (by rw [hk,e])
   rw [List.getElem?_set_ne this]
  · rfl
 · rfl
theorem applyS_other {l:List DR} {h:qae} {i:Nat} (hno:∀ r,r∈l→∀ off cs,r.k≠.store i off cs):(qbp l h)[i]?=h[i]?:=by
 rw [qbd]
 induction l generalizing h with
 | nil=>rfl
 | cons r l ih =>
  rw [List.foldl_cons,ih (fun r' hr=>hno r' (by simp [hr])),stepS_other (hno r (by simp))]
theorem stepS_kind (r:DR) (h:qae) (i:Nat):(∀ o,(∀ xs,o≠AObj.cells xs)→((stepS r h)[i]?=some o↔h[i]?=some o)):=by
 intro o ho
 unfold stepS
 split
 ·
  rename_i i' off cs hk
  split
  ·
   rename_i xs hx
   by_cases he:i'=i
   ·
    subst he
    have hlt:=(List.getElem?_eq_some_iff.1 hx).1
    rw [List.getElem?_set_self hlt,hx]
    constructor
    · intro h1;exact (ho _ (by simpa using h1.symm)).elim
    · intro h1;exact (ho _ (by simpa using h1.symm)).elim
   · rw [List.getElem?_set_ne he]
  · exact Iff.rfl
 · exact Iff.rfl
theorem applyS_kind (l:List DR) (h:qae) (i:Nat):(∀ o,(∀ xs,o≠AObj.cells xs)→((qbp l h)[i]?=some o↔h[i]?=some o)):=by
 intro o ho
 rw [qbd]
 induction l generalizing h with
 | nil=>exact Iff.rfl
 | cons r l ih=>rw [List.foldl_cons,ih,stepS_kind r h i o ho]
theorem stepS_cells {r:DR} {h:qae} (hfit:∀ i off cs xs,r.k=.store i off cs→h[i]?=some (.cells xs)→off+cs.length≤xs.length) {i:Nat} {xs:List AV} (hi:h[i]?=some (.cells xs)) :
  ∃ ys,(stepS r h)[i]?=some (.cells ys)∧ys.length=xs.length:=by
 unfold stepS
 split
 ·
  rename_i i' off cs hk
  split
  ·
   rename_i zs hz
   by_cases he:i'=i
   ·
    subst he
    have hlt:=(List.getElem?_eq_some_iff.1 hz).1
    have hf:=hfit i' off cs zs hk hz
    rw [List.getElem?_set_self hlt]
    rw [hi] at hz
    cases hz
    exact ⟨_,rfl,by simp [splice];omega⟩
   · rw [List.getElem?_set_ne he];exact ⟨xs,hi,rfl⟩
  · exact ⟨xs,hi,rfl⟩
 · exact ⟨xs,hi,rfl⟩
theorem applyS_cells {l:List DR}:∀ {h:qae},(∀ r,r∈l→∀ i off cs,r.k=.store i off cs→∀ ys,h[i]?=some (.cells ys)→off+cs.length≤ys.length)→∀ {i:Nat} {xs:List AV},h[i]?=some (.cells xs) →
  ∃ ys,(qbp l h)[i]?=some (.cells ys)∧ys.length=xs.length:=by
 induction l with
 | nil=>intro h _ i xs hi;exact ⟨xs,hi,rfl⟩
 | cons r l ih =>
  intro h hfit i xs hi
  rw [qbd,List.foldl_cons,← qbd]
  obtain ⟨ys,h1,h2⟩:=stepS_cells (r:=r) (h:=h) (fun i off cs xs hk hx=>hfit r (by simp) i off cs hk xs hx) hi
  obtain ⟨zs,h3,h4⟩:=ih (h:=stepS r h) (fun r' hr i off cs hk ys hy=>by
   -- the object was cells before too
   cases hh:h[i]? with
   | none =>
    have:(stepS r h)[i]?=none:=by rw [List.getElem?_eq_none_iff,stepS_len];exact List.getElem?_eq_none_iff.1 hh
    rw [this] at hy;cases hy
   | some o =>
    cases o with
    | cells zs =>
     obtain ⟨us,g1,g2⟩:=stepS_cells (r:=r) (h:=h) (fun i off cs xs hk hx=>hfit r (by simp) i off cs hk xs hx) hh
     rw [hy] at g1
     cases g1
     rw [g2]
     exact hfit r' (by simp [hr]) i off cs hk zs hh
    | none=>have:=(stepS_kind r h i .none (by simp)).2 hh;rw [this] at hy;cases hy
    | map es=>have:=(stepS_kind r h i (.map es) (by simp)).2 hh;rw [this] at hy;cases hy
    | iter a b=>have:=(stepS_kind r h i (.iter a b) (by simp)).2 hh;rw [this] at hy;cases hy
    | raw a b d=>have:=(stepS_kind r h i (.raw a b d) (by simp)).2 hh;rw [this] at hy;cases hy
    | uarr a b d=>have:=(stepS_kind r h i (.uarr a b d) (by simp)).2 hh;rw [this] at hy;cases hy
    | arr a b d=>have:=(stepS_kind r h i (.arr a b d) (by simp)).2 hh;rw [this] at hy;cases hy) h1
  exact ⟨zs,h3,by rw [h4,h2]⟩
theorem selX_mem {X:Nat→Bool}:∀ {R:List DR} {k:Nat} {r:DR},r∈selX X k R→∃ j,R[j]?=some r∧X (k+j)=true
 | [],_,_,h=>by simp [selX] at h
 | a::R,k,r,h=>by
  simp only [selX] at h
  cases hX:X k with
  | true =>
   rw [hX,cond_true] at h
   cases h with
   | head=>exact ⟨0,rfl,by simpa using hX⟩
   | tail _ h =>
    obtain ⟨j,h1,h2⟩:=selX_mem h
    exact ⟨j+1,by simpa using h1,by rwa [show k+(j+1)=k+1+j from by omega]⟩
  | false =>
   rw [hX,cond_false] at h
   obtain ⟨j,h1,h2⟩:=selX_mem h
   exact ⟨j+1,by simpa using h1,by rwa [show k+(j+1)=k+1+j from by omega]⟩
theorem applyS_add {X:Nat→Bool}:∀ {R:List DR} {k i:Nat} {r:DR},R[i]?=some r→X (k+i)=false→((∀ a b cs,r.k≠.store a b cs)∨∀ j r',R[j]?=some r'→i<j→X (k+j)=true→∀ a b cs,r'.k≠.store a b cs)→∀ h,
  qbp (selX (fun j=>if j=k+i then true else X j) k R) h=stepS r (qbp (selX X k R) h):=by
 have quiet:∀ {l:List DR} {h:qae},(∀ r,r∈l→∀ a b cs,r.k≠.store a b cs)→qbp l h=h:=by
  intro l
  induction l with
  | nil=>intro h _;rfl
  | cons r l ih =>
   intro h hq
   rw [qbd,List.foldl_cons,← qbd,ih (fun r' hr=>hq r' (by simp [hr]))]
   unfold stepS
   split
   · rename_i a b cs hk;exact (hq r (by simp) a b cs hk).elim
   · rfl
 have same:∀ (k:Nat) (R:List DR) (m:Nat),k<m→selX (fun j=>if j=k then true else X j) m R=selX X m R:=by
  intro k R
  induction R with
  | nil=>intro m _;rfl
  | cons b R ih =>
   intro m hm
   have hne:(if m=k then true else X m)=X m:=if_neg (by omega)
   simp only [selX]
   rw [hne,ih (m+1) (by omega)]
 have idle:∀ {r:DR} {h:qae},(∀ a b cs,r.k≠.store a b cs)→stepS r h=h:=by
  intro r h hq
  unfold stepS
  split
  · rename_i a b cs hk;exact (hq a b cs hk).elim
  · rfl
 intro R
 induction R with
 | nil=>intro k i r h;simp at h
 | cons a R ih =>
  intro k i r hr hX hlast h
  cases i with
  | zero =>
   simp at hr
   subst hr
   simp only [Nat.add_zero] at hX ⊢
   simp only [selX,if_true,hX,cond_true,cond_false]
   rw [same k R (k+1) (by omega),qbd,List.foldl_cons,← qbd]
   rcases hlast with hq | hq
   · rw [idle hq,idle hq]
   ·
    have hall:∀ r',r'∈selX X (k+1) R→∀ a b cs,r'.k≠.store a b cs:=fun r' hr'=>by
     obtain ⟨j,h1,h2⟩:=selX_mem hr'
     exact hq (j+1) r' (by simpa using h1) (by omega) (by rwa [show k+(j+1)=k+1+j from by omega])
    rw [quiet hall,quiet hall]
  | succ i =>
   have hlast':(∀ a b cs,r.k≠.store a b cs)∨∀ j r',R[j]?=some r'→i<j→X (k+1+j)=true→∀ a b cs,r'.k≠.store a b cs:=by
    rcases hlast with hq | hq
    · exact .inl hq
    · exact .inr fun j r' hr' hj hX'=>hq (j+1) r' (by simpa using hr') (by omega) (by rwa [show k+(j+1)=k+1+j from by omega])
   have:=fun h=>ih (k:=k+1) (i:=i) (r:=r) (by simpa using hr) (by rwa [show k+1+i=k+(i+1) from by omega]) hlast' h
   have hf:(fun j=>if j=k+1+i then true else X j)=(fun j=>if j=k+(i+1) then true else X j):=by
    funext j;rw [show k+(i+1)=k+1+i from by omega]
   rw [hf] at this
   have hne:(if k=k+(i+1) then true else X k)=X k:=if_neg (by omega)
   simp only [selX]
   rw [hne]
   cases X k with
   | true =>
    simp only [cond_true]
    rw [qbd,List.foldl_cons,← qbd,this,qbd (a::_),List.foldl_cons,← qbd]
   | false=>exact this h
end Go.Abs
