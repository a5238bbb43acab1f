/- Part 9 of a proof: AbsS, AbsT, AbsU -/
import Derived.Test.YtcjolkgjhcdhcaaGreatDoorR08
set_option linter.all false

namespace Go.Abs
@[simp] theorem liftK_bool (b:Bool):liftK (.bool b)=.val (.bool b):=rfl
@[simp] theorem liftK_int (k:IntKind) (n:Int):liftK (.int k n)=.val (.int k n):=rfl
@[simp] theorem liftK_string (l:List UInt8) (h:l.length≤68719476736):liftK (.string ⟨l.toArray⟩)=.val (.string ⟨l.toArray⟩):=by
 have:(⟨l.toArray⟩:ByteArray).size≤68719476736:=by simpa [ByteArray.size] using h
 simp [liftK,liftC,this]
@[simp] theorem liftK_nilIface:liftK .nilIface=.val .nilIface:=rfl
@[simp] theorem liftK_nil:liftK (.slice none 0 0)=.nils:=rfl
@[simp] theorem liftK_agg (vs:List Value):liftK (.agg ⟨vs⟩)=match oneList vs with
  | true=>.agg (vs.map liftC)
  | false=>.val (.agg ⟨vs⟩):=rfl
@[simp] theorem liftC_bool (b:Bool):liftC (.bool b)=.val (.bool b):=rfl
@[simp] theorem liftC_int (k:IntKind) (n:Int):liftC (.int k n)=.val (.int k n):=rfl
@[simp] theorem liftC_string (l:List UInt8) (h:l.length≤68719476736):liftC (.string ⟨l.toArray⟩)=.val (.string ⟨l.toArray⟩):=by
 have:(⟨l.toArray⟩:ByteArray).size≤68719476736:=by simpa [ByteArray.size] using h
 simp [liftC,this]
@[simp] theorem liftC_nil:liftC (.slice none 0 0)=.nils:=rfl
@[simp] theorem then_normal (K:Env→Prop) (Q:AExit→Env→Prop) (e:Env):AExit.then K Q .normal e=K e:=rfl
@[simp] theorem then_ret (K:Env→Prop) (Q:AExit→Env→Prop) (e:Env):AExit.then K Q .ret e=Q .ret e:=rfl
@[simp] theorem then_exit (K:Env→Prop) (Q:AExit→Env→Prop) (i:Nat) (e:Env):AExit.then K Q (.exit i) e=Q (.exit i) e:=rfl
@[simp] theorem then_panic (K:Env→Prop) (Q:AExit→Env→Prop) (v:AV) (e:Env):AExit.then K Q (.panic v) e=Q (.panic v) e:=rfl
@[simp] theorem inBlock_normal (i:Nat) (Q:AExit→Env→Prop) (e:Env):AExit.inBlock i Q .normal e=Q .normal e:=rfl
@[simp] theorem inBlock_ret (i:Nat) (Q:AExit→Env→Prop) (e:Env):AExit.inBlock i Q .ret e=Q .ret e:=rfl
@[simp] theorem inBlock_exit (i j:Nat) (Q:AExit→Env→Prop) (e:Env):AExit.inBlock i Q (.exit j) e=if j=i then Q .normal e else Q (.exit j) e:=rfl
@[simp] theorem inBlock_panic (i:Nat) (Q:AExit→Env→Prop) (v:AV) (e:Env):AExit.inBlock i Q (.panic v) e=Q (.panic v) e:=rfl
@[simp] theorem hwk_self (h:qab):hwk h h=True:=eq_true (hwk.refl h)
@[simp] theorem hwk_more (h l:qab):hwk (h++l) h=True:=eq_true (hwk.app0 h)
@[simp] theorem wk_self (x:AV):x.Wk x=True:=eq_true (.refl x)
@[simp] theorem wk_top (x:AV):x.Wk .top=True:=eq_true (.top x)
@[simp] theorem wk_nils:AV.nils.Wk (.slice [])=True:=eq_true .nils
theorem pickV_true {y z:AV}:pickV (.val (.bool true)) y z=y.strip:=by
 unfold pickV;simp only [AV.strip];split<;>simp_all
theorem pickV_false {y z:AV}:pickV (.val (.bool false)) y z=z.strip:=by
 unfold pickV;simp only [AV.strip];split<;>simp_all
theorem pickV_o1 {g:Bool} {v:Value} {y z:AV}:pickV (.opt g (.val v)) y z=pickV (.val v) y z:=rfl
theorem pickV_o2 {g:Bool} {v:Value} {x z:AV}:pickV x (.opt g (.val v)) z=pickV x (.val v) z:=rfl
theorem pickV_o3 {g:Bool} {v:Value} {x y:AV}:pickV x y (.opt g (.val v))=pickV x y (.val v):=rfl
theorem pickV_b {b p q:Bool}:pickV (.val (.bool b)) (.val (.bool p)) (.val (.bool q))=.val (.bool (bif b then p else q)):=rfl
@[simp] theorem RowsLen.nil (sz:Nat):RowsLen sz []=True:=eq_true (fun _ h=>by cases h)
@[simp] theorem RowsLen.cons (sz:Nat) (r:List AV) (l:List (List AV)):RowsLen sz (r::l)=(r.length=sz∧RowsLen sz l):=by simp [RowsLen]
@[simp] theorem RowsLen.map {α:Type} (sz:Nat) (f:α→List AV) (l:List α) (h:∀ x,(f x).length=sz):RowsLen sz (l.map f)=True:=by simp [RowsLen,h]
@[simp] theorem RowsLen.take (sz n:Nat) (l:List (List AV)) (h:RowsLen sz l):RowsLen sz (l.take n)=True:=eq_true (fun r hr=>h r (List.mem_of_mem_take hr))
@[simp] theorem RowsLen.drop (sz n:Nat) (l:List (List AV)) (h:RowsLen sz l):RowsLen sz (l.drop n)=True:=eq_true (fun r hr=>h r (List.mem_of_mem_drop hr))
@[simp] theorem RowsLen.app (sz:Nat) (l l':List (List AV)):RowsLen sz (l++l')=(RowsLen sz l∧RowsLen sz l'):=by
 simp only [RowsLen,List.mem_append,eq_iff_iff];exact ⟨fun h=>⟨fun r hr=>h r (.inl hr),fun r hr=>h r (.inr hr)⟩,fun h r hr=>hr.elim (h.1 r) (h.2 r)⟩
@[simp] theorem take_map_len {α β:Type} (f:α→β) (l:List α):(l.map f).take l.length=l.map f:=List.take_of_length_le (by simp)
attribute [go_sem] pickV_true pickV_false pickV_o1 pickV_o2 pickV_o3 pickV_b
attribute [go_sem] oneList opsF stepF gB dstOk isEff qbf optV Env.put qax Env.get AV.has Env.getS AV.strip qa8 qd3 opEff pickOk Op.operands Call.operands
 aInt aStr aBin fitA eqA aLookup AV.isInt AV.isIface aLoad aLoadAt aField qea aIndex aLen boundAV aSlice aMin aMin3 aMax aConv aAssert TK.agg AV.cells AV.cellsOk AV.one AV.isData litRows srcRows aAppend fillL places SV.no Value.oneCell'
 purePost fnPost RetOk PanOk resSides resSV mkRes AV.norm qbc AV.under qaw wkT wkL
end Go.Abs

namespace Go.Abs
inductive DK where
 | quiet (rd:Option Nat)
 | fresh (xs:List AV)
 | store (i off:Nat) (cs:List AV)
structure DR where
 dst:Option Tmp
 res:AV
 k:DK
instance:Inhabited DR:=⟨⟨none,.top,.quiet none⟩⟩
def DR.next (r:DR) (e:Env):Env :=
 match r.k with
 | .fresh xs=>({ e with h:=e.h++[.cells xs] }:Env).put r.dst r.res
 | _=>e.put r.dst r.res
def rdOf (e:Env):Op→Option Nat
 | .load _ a=>match e.getS a with
  | .ptr i _=>some i
  | _=>none
 | _=>none
def AObj.kept:AObj→Bool
 | .raw .. | .uarr ..=>true
 | _=>false
def SameRaw (h h':qab):Prop:=∀ (i:Nat) (o:AObj),o.kept=true→h[i]?=some o→h'[i]?=some o
def APureAt (P:Program) (f:FuncId) (args:List AV) (r:AV) (h:qab):Prop:=∀ h',SameRaw h h'→ACalls P f args h' fun e h''=>e=.ret r∧h''=h'
theorem APure.at {P:Program} {f:FuncId} {args:List AV} {r:AV} (k:APure P f args r) (h:qab):APureAt P f args r h:=fun h' _=>k h'
def isStore:Op→Bool
 | .store ..=>true
 | _=>false
def stepD (P:Program) (N:Nat) (ds:List (Option Tmp)) (o:Oper) (e:Env) (K:DR→Prop):Prop :=
 match gB ds e o.guard with
 | none=>False
 | some G =>
  dstOk N o.dst ∧
  match o.op with
  | .pick x y z=>pickOk G (e.get x) (e.get y) (e.get z)∧K ⟨o.dst,optV o.guard G (pickV (e.get x) (e.get y) (e.get z)),.quiet none⟩
  | .box _ x=>o.guard=none∧qax e true [x]∧(e.getS x).cellsOk=true∧K ⟨o.dst,.ptr e.h.length 0,.fresh (e.getS x).cells⟩
  | .alloc T=>o.guard=none∧qak P T≠.other∧K ⟨o.dst,.ptr e.h.length 0,.fresh (qa1 P T)⟩
  | .store T a x=>o.guard=none∧o.dst=none∧qax e true [a,x]∧qak P T≠.other∧(e.getS x).cellsOk=true∧(e.getS x).cells.length=qau P T ∧
   match e.getS a with
   | .ptr i off=>match e.h[i]? with
    | some (.cells xs)=>off+(e.getS x).cells.length≤xs.length∧K ⟨none,.top,.store i off (e.getS x).cells⟩
    | _=>False
   | _=>False
  | .buildSlice T n parts =>
   match qak P T with
   | .slice el sz=>match litRows e.h sz 0 (parts.toList.map fun p=>(p.1,e.getS p.2)) with
    | some rows=>G=true∧qax e true (parts.toList.map (·.2))∧rows.length=n∧0<sz∧n * sz≤16777216∧qak P el≠.other∧qau P el=sz∧K ⟨o.dst,optV o.guard G (.slice rows),.quiet none⟩
    | none=>False
   | _=>False
  | .call { callee:=.value f,args,.. }=>match e.getS f with
   | .fn (.func fid) first caps=>∃ r,(G=true→qax e true (f::args.toList)∧APureAt P fid (qbc e.h (first++args.toList.map e.getS++caps)) r e.h)∧K ⟨o.dst,optV o.guard G r,.quiet none⟩
   | _=>False
  | op=>(G=true→qax e true op.operands.toList∧(qbf P e.getS e.h op).side)∧K ⟨o.dst,optV o.guard G (qbf P e.getS e.h op).val,.quiet (rdOf e op)⟩
def opsD (P:Program) (N:Nat):List (Option Tmp)→List Oper→Env→List DR→(List DR→Env→Prop)→Prop
 | _,[],e,acc,K=>K acc e
 | ds,o::l,e,acc,K=>stepD P N ds o e fun r=>opsD P N (ds++[o.dst]) l (r.next e) (acc++[r]) K
theorem stepD_wit {P:Program} {N:Nat} {ds:List (Option Tmp)} {o:Oper} {e:Env} {K:DR→Prop} (h:stepD P N ds o e K):∃ r,stepD P N ds o e (· = r)∧K r:=by
 unfold stepD at h ⊢;split at h
 · exact h.elim
 ·
  rename_i G hG;simp only [hG];obtain ⟨hd,h⟩:=h;split at h
  · exact ⟨_,⟨hd,h.1,rfl⟩,h.2⟩
  · exact ⟨_,⟨hd,h.1,h.2.1,h.2.2.1,rfl⟩,h.2.2.2⟩
  · exact ⟨_,⟨hd,h.1,h.2.1,rfl⟩,h.2.2⟩
  ·
   rename_i T a x hop;obtain ⟨h1,h2,h3,h4,h5,h6,h7⟩:=h;split at h7
   ·
    rename_i i off ha;split at h7
    ·
     rename_i xs hi;exact ⟨⟨none,.top,.store i off (e.getS x).cells⟩,⟨hd,h1,h2,h3,h4,h5,h6,by simp only [ha,hi];exact ⟨h7.1,trivial⟩⟩,h7.2⟩
    · exact h7.elim
   · exact h7.elim
  ·
   rename_i T n parts hop;split at h
   ·
    rename_i el sz hk;split at h
    ·
     rename_i rows hr;obtain ⟨h1,h2,h3,h4,h5,h6,h7,h8⟩:=h;exact ⟨⟨o.dst,optV o.guard G (.slice rows),.quiet none⟩,⟨hd,by simp only [hk,hr];exact ⟨h1,h2,h3,h4,h5,h6,h7,trivial⟩⟩,h8⟩
    · exact h.elim
   · exact h.elim
  ·
   rename_i f args ts hop;split at h
   ·
    rename_i fid first caps hf
    obtain ⟨r,h1,h2⟩:=h;exact ⟨⟨o.dst,optV o.guard G r,.quiet none⟩,⟨hd,⟨r,h1,rfl⟩⟩,h2⟩
   · exact h.elim
  · exact ⟨_,⟨hd,h.1,rfl⟩,h.2⟩
def qao (e:Env):List DR→Env
 | []=>e
 | r::l=>qao (r.next e) l
theorem opsD_wit {P:Program} {N:Nat}:∀ {l:List Oper} {ds:List (Option Tmp)} {e:Env} {acc:List DR} {K:List DR→Env→Prop},opsD P N ds l e acc K →
  ∃ R:List DR,R.length=l.length∧(∀ (k:Nat) (o:Oper),l[k]?=some o→stepD P N (ds++(l.take k).map (·.dst)) o (qao e (R.take k)) (fun r=>R[k]?=some r))∧K (acc++R) (qao e R)
 | [],ds,e,acc,K,h=>⟨[],rfl,by simp,by simpa [qao,opsD] using h⟩
 | o::l,ds,e,acc,K,h=>by
  obtain ⟨r,h1,h2⟩:=stepD_wit (K:=fun r=>opsD P N (ds++[o.dst]) l (r.next e) (acc++[r]) K) h;obtain ⟨R,hl,hk,hK⟩:=opsD_wit h2;refine ⟨r::R,by simp [hl],fun k o' ho=>?_,by simpa [qao] using hK⟩;cases k with
  | zero =>
   simp at ho;subst ho;simpa [qao,eq_comm] using h1
  | succ k =>
   have:=hk k o' (by simpa using ho);simpa [qao,List.append_assoc] using this
def qb9:List DR→qab→qab
 | [],h=>h
 | r::l,h=>match r.k with
  | .store i off cs=>qb9 l (match h[i]? with
   | some (.cells xs)=>h.set i (.cells (xs.take off++cs++xs.drop (off+cs.length)))
   | _=>h)
  | _=>qb9 l h
end Go.Abs

namespace Go.Abs
def slotX (X:Nat→Bool) (t:Tmp):Nat→List DR→AV→AV
 | _,[],x=>x
 | k,r::l,x=>slotX X t (k+1) l (bif X k&&decide (r.dst=some t) then r.res else x)
def qbb (X:Nat→Bool):Nat→List DR→qab
 | _,[]=>[]
 | k,r::l=>match r.k with
  | .fresh xs=>(bif X k then AObj.cells xs else .none)::qbb X (k+1) l
  | _=>qbb X (k+1) l
def selX (X:Nat→Bool):Nat→List DR→List DR
 | _,[]=>[]
 | k,r::l=>bif X k then r::selX X (k+1) l else selX X (k+1) l
theorem qc1 {X Y:Nat→Bool} {t:Tmp}:∀ {l:List DR} {k:Nat} {x:AV},(∀ j r,l[j]?=some r→r.dst=some t→X (k+j)=Y (k+j))→slotX X t k l x=slotX Y t k l x
 | [],_,_,_=>rfl
 | r::l,k,x,h=>by
  simp only [slotX];have h0:(X k&&decide (r.dst=some t))=(Y k&&decide (r.dst=some t)):=by
   by_cases hd:r.dst=some t
   ·
    have:=h 0 r rfl hd;simp only [Nat.add_zero] at this;rw [this]
   · simp [hd]
  rw [h0];exact qc1 fun j r' hr hd=>by
   have:=h (j+1) r' (by simpa using hr) hd
   rwa [show k+(j+1)=k+1+j from by omega] at this
theorem slotX_none {X:Nat→Bool} {t:Tmp}:∀ {l:List DR} {k:Nat} {x:AV},(∀ j r,l[j]?=some r→X (k+j)=true→r.dst≠some t)→slotX X t k l x=x
 | [],_,_,_=>rfl
 | r::l,k,x,h=>by
  have h0:(X k&&decide (r.dst=some t))=false:=by
   by_cases hX:X k=true
   · simp [h 0 r rfl (by simpa using hX)]
   · simp [hX]
  simp only [slotX,h0,cond_false];exact slotX_none fun j r' hr hX=>h (j+1) r' (by simpa using hr) (by rwa [show k+(j+1)=k+1+j from by omega])
theorem slotX_add {X:Nat→Bool} {t:Tmp}:∀ {l:List DR} {k i:Nat} {r:DR} {x:AV},l[i]?=some r→(∀ j r',l[j]?=some r'→r'.dst=r.dst→r.dst≠none→j=i) →
  slotX (fun j=>if j=k+i then true else X j) t k l x=if r.dst=some t then r.res else slotX X t k l x
 | [],_,_,_,_,h,_=>by simp at h
 | a::l,k,0,r,x,h,hu=>by
  simp at h;subst h;simp only [slotX,Nat.add_zero,if_true,Bool.true_and];have hrest:∀ y,slotX (fun j=>if j=k then true else X j) t (k+1) l y=slotX X t (k+1) l y:=fun y=>qc1 fun j r' _ _=>by
   rw [if_neg (by omega)]
  rw [hrest];by_cases hd:a.dst=some t
  ·
   rw [if_pos hd,decide_eq_true hd,cond_true];exact slotX_none fun j r' hr' _ hd'=>by
    have:=hu (j+1) r' (by simpa using hr') (by rw [hd',hd]) (by rw [hd];simp);omega
  · rw [if_neg hd,decide_eq_false hd,cond_false,Bool.and_false,cond_false]
 | a::l,k,i+1,r,x,h,hu=>by
  have hne:(if k=k+(i+1) then true else X k)=X k:=if_neg (by omega);simp only [slotX];rw [hne];have hf:(fun j=>if j=k+(i+1) then true else X j)=(fun j=>if j=k+1+i then true else X j):=by
   funext j;rw [show k+(i+1)=k+1+i from by omega]
  rw [hf];exact slotX_add (X:=X) (t:=t) (k:=k+1) (l:=l) (i:=i) (r:=r) (by simpa using h) fun j r' hr' hd hn=>by
   have:=hu (j+1) r' (by simpa using hr') hd hn;omega
theorem slotX_take {X:Nat→Bool} {t:Tmp}:∀ (R:List DR) (n k:Nat) (x:AV),slotX X t k (R.take n) x=slotX (fun j=>decide (j<k+n)&&X j) t k R x
 | [],n,k,x=>by simp [slotX]
 | r::R,0,k,x=>by
  rw [List.take_zero,slotX_none (l:=r::R)]
  · rfl
  · intro j r' _ hX;simp at hX;omega
 | r::R,n+1,k,x=>by
  simp only [List.take_succ_cons,slotX];rw [slotX_take R n (k+1)];have h1:(decide (k<k+(n+1))&&X k)=X k:=by simp
  rw [h1];exact qc1 fun j _ _ _=>by rw [show k+1+n=k+(n+1) from by omega]
theorem lookT_envAt {e:Env} {t:Tmp}:∀ (R:List DR),qa8 (qao e R).t t=slotX (fun _=>true) t 0 R (qa8 e.t t):=by
 intro R;have gen:∀ (R:List DR) (k:Nat) (e:Env),qa8 (qao e R).t t=slotX (fun _=>true) t k R (qa8 e.t t):=by
  intro R
  induction R with
  | nil=>intro k e;rfl
  | cons r R ih =>
   intro k e;simp only [qao,slotX,Bool.true_and];rw [ih (k+1)];congr 1;have hput:∀ e':Env,qa8 (e'.put r.dst r.res).t t=bif decide (r.dst=some t) then r.res else qa8 e'.t t:=fun e'=>by
    cases hd:r.dst with
    | none=>simp [Env.put]
    | some d =>
     simp only [Env.put,qa8,Option.some.injEq];by_cases h:d=t
     · subst h;simp
     ·
      have:(d == t)=false:=by simpa using h
      rw [this,decide_eq_false h]
   unfold DR.next
   split<;>exact hput _
 exact gen R 0 e
theorem envAt_h {e:Env} (R:List DR):(qao e R).h=e.h++qbb (fun _=>true) 0 R:=by
 have gen:∀ (R:List DR) (k:Nat) (e:Env),(qao e R).h=e.h++qbb (fun _=>true) k R:=by
  intro R
  induction R with
  | nil=>intro k e;simp [qao,qbb]
  | cons r R ih =>
   intro k e;simp only [qao];rw [ih (k+1)];have hput:∀ (e':Env) d v,(e'.put d v).h=e'.h:=fun e' d v=>by cases d<;>rfl
   unfold DR.next
   simp only [qbb];cases r.k<;>simp [hput]
 exact gen R 0 e
def nFresh (R:List DR) (k:Nat):Nat:=(qbb (fun _=>true) 0 (R.take k)).length
theorem freshX_get {X:Nat→Bool}:∀ (R:List DR) (k i:Nat) (r:DR) (xs:List AV),R[i]?=some r→r.k=.fresh xs →
  (qbb X k R)[(qbb (fun _=>true) k (R.take i)).length]?=some (bif X (k+i) then .cells xs else .none)
 | [],_,_,_,_,h,_=>by simp at h
 | a::R,k,0,r,xs,h,hk=>by
  simp at h;subst h;simp [qbb,hk]
 | a::R,k,i+1,r,xs,h,hk=>by
  have:=freshX_get (X:=X) R (k+1) i r xs (by simpa using h) hk;rw [show k+1+i=k+(i+1) from by omega] at this;simp only [List.take_succ_cons,qbb];cases a.k with
  | fresh ys=>simpa using this
  | _=>exact this
theorem qdc {X:Nat→Bool}:∀ (R:List DR) (k j:Nat) (o:AObj),(qbb X k R)[j]?=some o→∃ i r xs,R[i]?=some r∧r.k=.fresh xs∧(qbb (fun _=>true) k (R.take i)).length=j∧o=bif X (k+i) then .cells xs else .none
 | [],_,_,_,h=>by simp [qbb] at h
 | a::R,k,j,o,h=>by
  simp only [qbb] at h;cases hk:a.k with
  | fresh ys =>
   rw [hk] at h;cases j with
   | zero =>
    simp at h;exact ⟨0,a,ys,rfl,hk,by simp [qbb],by rw [← h];simp⟩
   | succ j =>
    obtain ⟨i,r,xs,h1,h2,h3,h4⟩:=qdc R (k+1) j o (by simpa using h);exact ⟨i+1,r,xs,by simpa using h1,h2,by simp only [List.take_succ_cons,qbb,hk,List.length_cons,h3],by rw [h4,show k+1+i=k+(i+1) from by omega]⟩
  | quiet rd =>
   rw [hk] at h;obtain ⟨i,r,xs,h1,h2,h3,h4⟩:=qdc R (k+1) j o h;exact ⟨i+1,r,xs,by simpa using h1,h2,by simp only [List.take_succ_cons,qbb,hk];exact h3,by rw [h4,show k+1+i=k+(i+1) from by omega]⟩
  | store a1 a2 a3 =>
   rw [hk] at h;obtain ⟨i,r,xs,h1,h2,h3,h4⟩:=qdc R (k+1) j o h;exact ⟨i+1,r,xs,by simpa using h1,h2,by simp only [List.take_succ_cons,qbb,hk];exact h3,by rw [h4,show k+1+i=k+(i+1) from by omega]⟩
theorem freshX_add {X:Nat→Bool}:∀ (R:List DR) (k i:Nat) (r:DR) (xs:List AV),R[i]?=some r→r.k=.fresh xs →
  qbb (fun j=>if j=k+i then true else X j) k R=(qbb X k R).set (qbb (fun _=>true) k (R.take i)).length (.cells xs)
 | [],_,_,_,_,h,_=>by simp at h
 | a::R,k,0,r,xs,h,hk=>by
  simp at h;subst h;simp only [qbb,hk,Nat.add_zero,if_true,List.take_zero,List.length_nil,List.set_cons_zero,List.cons.injEq,cond_true,true_and];have:∀ (R:List DR) (m:Nat),k<m→qbb (fun j=>if j=k then true else X j) m R=qbb X m R:=by
   intro R
   induction R with
   | nil=>intro m _;rfl
   | cons b R ih =>
    intro m hm;have hne:(if m=k then true else X m)=X m:=if_neg (by omega);simp only [qbb];rw [hne,ih (m+1) (by omega)]
  exact this R (k+1) (by omega)
 | a::R,k,i+1,r,xs,h,hk=>by
  have:=freshX_add (X:=X) R (k+1) i r xs (by simpa using h) hk;rw [show k+1+i=k+(i+1) from by omega] at this;have hne:(if k=k+(i+1) then true else X k)=X k:=if_neg (by omega);simp only [List.take_succ_cons,qbb];cases a.k with
  | fresh ys =>
   simp only [List.length_cons,List.set_cons_succ];rw [this,hne]
  | _=>exact this
theorem freshX_same {X:Nat→Bool}:∀ (R:List DR) (k i:Nat) (r:DR),R[i]?=some r→(∀ xs,r.k≠.fresh xs)→qbb (fun j=>if j=k+i then true else X j) k R=qbb X k R
 | [],_,_,_,_,_=>rfl
 | a::R,k,0,r,h,hk=>by
  simp at h;subst h;have:∀ (R:List DR) (m:Nat),k<m→qbb (fun j=>if j=k then true else X j) m R=qbb X m R:=by
   intro R
   induction R with
   | nil=>intro m _;rfl
   | cons b R ih =>
    intro m hm;have hne:(if m=k then true else X m)=X m:=if_neg (by omega);simp only [qbb];rw [hne,ih (m+1) (by omega)]
  simp only [qbb,Nat.add_zero];cases hak:a.k with
  | fresh xs=>exact (hk xs hak).elim
  | _=>exact this R (k+1) (by omega)
 | a::R,k,i+1,r,h,hk=>by
  have:=freshX_same (X:=X) R (k+1) i r (by simpa using h) hk;rw [show k+1+i=k+(i+1) from by omega] at this;have hne:(if k=k+(i+1) then true else X k)=X k:=if_neg (by omega);simp only [qbb];rw [this,hne]
def splice (xs:List AV) (off:Nat) (cs:List AV):List AV:=xs.take off++cs++xs.drop (off+cs.length)
def stepS (r:DR) (h:qab):qab :=
 match r.k with
 | .store i off cs=>match h[i]? with
  | some (.cells xs)=>h.set i (.cells (splice xs off cs))
  | _=>h
 | _=>h
theorem qbr:∀ (l:List DR) (h:qab),qb9 l h=l.foldl (fun h r=>stepS r h) h
 | [],_=>rfl
 | r::l,h=>by
  simp only [qb9,List.foldl_cons,stepS];cases r.k with
  | store i off cs=>exact qbr l _
  | _=>exact qbr l _
theorem stepS_len (r:DR) (h:qab):(stepS r h).length=h.length:=by
 unfold stepS;split
 · split<;>simp
 · rfl
theorem applyS_len (l:List DR) (h:qab):(qb9 l h).length=h.length:=by
 rw [qbr]
 induction l generalizing h with
 | nil=>rfl
 | cons r l ih=>rw [List.foldl_cons,ih,stepS_len]
theorem stepS_other {r:DR} {h:qab} {i:Nat} (hno:∀ off cs,r.k≠.store i off cs):(stepS r h)[i]?=h[i]?:=by
 unfold stepS;split
 ·
  rename_i i' off cs hk;split
  ·
   have:i'≠i:=fun e=>hno off cs (by rw [hk,e]);rw [List.getElem?_set_ne this]
  · rfl
 · rfl
theorem applyS_other {l:List DR} {h:qab} {i:Nat} (hno:∀ r,r∈l→∀ off cs,r.k≠.store i off cs):(qb9 l h)[i]?=h[i]?:=by
 rw [qbr]
 induction l generalizing h with
 | nil=>rfl
 | cons r l ih =>
  rw [List.foldl_cons,ih (fun r' hr=>hno r' (by simp [hr])),stepS_other (hno r (by simp))]
theorem stepS_kind (r:DR) (h:qab) (i:Nat):(∀ o,(∀ xs,o≠AObj.cells xs)→((stepS r h)[i]?=some o↔h[i]?=some o)):=by
 intro o ho;unfold stepS;split
 ·
  rename_i i' off cs hk;split
  ·
   rename_i xs hx;by_cases he:i'=i
   ·
    subst he;have hlt:=(List.getElem?_eq_some_iff.1 hx).1;rw [List.getElem?_set_self hlt,hx];constructor
    · intro h1;exact (ho _ (by simpa using h1.symm)).elim
    · intro h1;exact (ho _ (by simpa using h1.symm)).elim
   · rw [List.getElem?_set_ne he]
  · exact Iff.rfl
 · exact Iff.rfl
theorem applyS_kind (l:List DR) (h:qab) (i:Nat):(∀ o,(∀ xs,o≠AObj.cells xs)→((qb9 l h)[i]?=some o↔h[i]?=some o)):=by
 intro o ho;rw [qbr]
 induction l generalizing h with
 | nil=>exact Iff.rfl
 | cons r l ih=>rw [List.foldl_cons,ih,stepS_kind r h i o ho]
theorem stepS_cells {r:DR} {h:qab} (hfit:∀ i off cs xs,r.k=.store i off cs→h[i]?=some (.cells xs)→off+cs.length≤xs.length) {i:Nat} {xs:List AV} (hi:h[i]?=some (.cells xs)) :
  ∃ ys,(stepS r h)[i]?=some (.cells ys)∧ys.length=xs.length:=by
 unfold stepS;split
 ·
  rename_i i' off cs hk;split
  ·
   rename_i zs hz;by_cases he:i'=i
   ·
    subst he;have hlt:=(List.getElem?_eq_some_iff.1 hz).1;have hf:=hfit i' off cs zs hk hz;rw [List.getElem?_set_self hlt];rw [hi] at hz;cases hz;exact ⟨_,rfl,by simp [splice];omega⟩
   · rw [List.getElem?_set_ne he];exact ⟨xs,hi,rfl⟩
  · exact ⟨xs,hi,rfl⟩
 · exact ⟨xs,hi,rfl⟩
theorem applyS_cells {l:List DR}:∀ {h:qab},(∀ r,r∈l→∀ i off cs,r.k=.store i off cs→∀ ys,h[i]?=some (.cells ys)→off+cs.length≤ys.length)→∀ {i:Nat} {xs:List AV},h[i]?=some (.cells xs) →
  ∃ ys,(qb9 l h)[i]?=some (.cells ys)∧ys.length=xs.length:=by
 induction l with
 | nil=>intro h _ i xs hi;exact ⟨xs,hi,rfl⟩
 | cons r l ih =>
  intro h hfit i xs hi;rw [qbr,List.foldl_cons,← qbr];obtain ⟨ys,h1,h2⟩:=stepS_cells (r:=r) (h:=h) (fun i off cs xs hk hx=>hfit r (by simp) i off cs hk xs hx) hi;obtain ⟨zs,h3,h4⟩:=ih (h:=stepS r h) (fun r' hr i off cs hk ys hy=>by
   -- the object was cells before too
   cases hh:h[i]? with
   | none =>
    have:(stepS r h)[i]?=none:=by rw [List.getElem?_eq_none_iff,stepS_len];exact List.getElem?_eq_none_iff.1 hh
    rw [this] at hy;cases hy
   | some o =>
    cases o with
    | cells zs =>
     obtain ⟨us,g1,g2⟩:=stepS_cells (r:=r) (h:=h) (fun i off cs xs hk hx=>hfit r (by simp) i off cs hk xs hx) hh;rw [hy] at g1;cases g1;rw [g2];exact hfit r' (by simp [hr]) i off cs hk zs hh
    | none=>have:=(stepS_kind r h i .none (by simp)).2 hh;rw [this] at hy;cases hy
    | map es=>have:=(stepS_kind r h i (.map es) (by simp)).2 hh;rw [this] at hy;cases hy
    | iter a b=>have:=(stepS_kind r h i (.iter a b) (by simp)).2 hh;rw [this] at hy;cases hy
    | raw a b d=>have:=(stepS_kind r h i (.raw a b d) (by simp)).2 hh;rw [this] at hy;cases hy
    | uarr a b d=>have:=(stepS_kind r h i (.uarr a b d) (by simp)).2 hh;rw [this] at hy;cases hy
    | arr a b d=>have:=(stepS_kind r h i (.arr a b d) (by simp)).2 hh;rw [this] at hy;cases hy) h1
  exact ⟨zs,h3,by rw [h4,h2]⟩
theorem selX_mem {X:Nat→Bool}:∀ {R:List DR} {k:Nat} {r:DR},r∈selX X k R→∃ j,R[j]?=some r∧X (k+j)=true
 | [],_,_,h=>by simp [selX] at h
 | a::R,k,r,h=>by
  simp only [selX] at h;cases hX:X k with
  | true =>
   rw [hX,cond_true] at h;cases h with
   | head=>exact ⟨0,rfl,by simpa using hX⟩
   | tail _ h =>
    obtain ⟨j,h1,h2⟩:=selX_mem h;exact ⟨j+1,by simpa using h1,by rwa [show k+(j+1)=k+1+j from by omega]⟩
  | false =>
   rw [hX,cond_false] at h;obtain ⟨j,h1,h2⟩:=selX_mem h;exact ⟨j+1,by simpa using h1,by rwa [show k+(j+1)=k+1+j from by omega]⟩
theorem applyS_add {X:Nat→Bool}:∀ {R:List DR} {k i:Nat} {r:DR},R[i]?=some r→X (k+i)=false→((∀ a b cs,r.k≠.store a b cs)∨∀ j r',R[j]?=some r'→i<j→X (k+j)=true→∀ a b cs,r'.k≠.store a b cs)→∀ h,
  qb9 (selX (fun j=>if j=k+i then true else X j) k R) h=stepS r (qb9 (selX X k R) h):=by
 have quiet:∀ {l:List DR} {h:qab},(∀ r,r∈l→∀ a b cs,r.k≠.store a b cs)→qb9 l h=h:=by
  intro l
  induction l with
  | nil=>intro h _;rfl
  | cons r l ih =>
   intro h hq;rw [qbr,List.foldl_cons,← qbr,ih (fun r' hr=>hq r' (by simp [hr]))];unfold stepS;split
   · rename_i a b cs hk;exact (hq r (by simp) a b cs hk).elim
   · rfl
 have same:∀ (k:Nat) (R:List DR) (m:Nat),k<m→selX (fun j=>if j=k then true else X j) m R=selX X m R:=by
  intro k R
  induction R with
  | nil=>intro m _;rfl
  | cons b R ih =>
   intro m hm;have hne:(if m=k then true else X m)=X m:=if_neg (by omega);simp only [selX];rw [hne,ih (m+1) (by omega)]
 have idle:∀ {r:DR} {h:qab},(∀ a b cs,r.k≠.store a b cs)→stepS r h=h:=by
  intro r h hq;unfold stepS;split
  · rename_i a b cs hk;exact (hq a b cs hk).elim
  · rfl
 intro R
 induction R with
 | nil=>intro k i r h;simp at h
 | cons a R ih =>
  intro k i r hr hX hlast h;cases i with
  | zero =>
   simp at hr;subst hr;simp only [Nat.add_zero] at hX ⊢;simp only [selX,if_true,hX,cond_true,cond_false];rw [same k R (k+1) (by omega),qbr,List.foldl_cons,← qbr];rcases hlast with hq | hq
   · rw [idle hq,idle hq]
   ·
    have hall:∀ r',r'∈selX X (k+1) R→∀ a b cs,r'.k≠.store a b cs:=fun r' hr'=>by
     obtain ⟨j,h1,h2⟩:=selX_mem hr';exact hq (j+1) r' (by simpa using h1) (by omega) (by rwa [show k+(j+1)=k+1+j from by omega])
    rw [quiet hall,quiet hall]
  | succ i =>
   have hlast':(∀ a b cs,r.k≠.store a b cs)∨∀ j r',R[j]?=some r'→i<j→X (k+1+j)=true→∀ a b cs,r'.k≠.store a b cs:=by
    rcases hlast with hq | hq
    · exact .inl hq
    · exact .inr fun j r' hr' hj hX'=>hq (j+1) r' (by simpa using hr') (by omega) (by rwa [show k+(j+1)=k+1+j from by omega])
   have:=fun h=>ih (k:=k+1) (i:=i) (r:=r) (by simpa using hr) (by rwa [show k+1+i=k+(i+1) from by omega]) hlast' h;have hf:(fun j=>if j=k+1+i then true else X j)=(fun j=>if j=k+(i+1) then true else X j):=by
    funext j;rw [show k+(i+1)=k+1+i from by omega]
   rw [hf] at this;have hne:(if k=k+(i+1) then true else X k)=X k:=if_neg (by omega);simp only [selX];rw [hne];cases X k with
   | true =>
    simp only [cond_true];rw [qbr,List.foldl_cons,← qbr,this,qbr (a::_),List.foldl_cons,← qbr]
   | false=>exact this h
end Go.Abs
