/- Part 17 of a proof: AbsZf, AbsRq, AbsSh, AbsIn -/
import Derived.RangeFuncIn
import Derived.RangeFuncLeaves
import Derived.RangeFuncRecord
import Derived.OrdersIn
import Derived.TacticsIn
import Derived.Test.YtilhejdbiionhaaGreatDoorV02
import Derived.Test.YtilhejdbiionhaaGreatDoorV13
import Derived.Test.YtilhejdbiionhaaGreatDoorV16
set_option linter.all false

namespace Go.Abs
theorem append_wit0 {P:Program} {T:TypeId} {s x:AV} {h:qab} {K:AV→qab→Prop} (hK:aAppend0 P T s x h K):∃ r h2,aAppend0 P T s x h (fun r1 h1=>True∧r1=r∧h1=h2)∧K r h2:=by
 unfold aAppend0 at hK;split at hK
 rotate_left
 · exact hK.elim
 rename_i h1 h2;obtain ⟨g1,g2,g3,g4,g5,hK⟩:=hK;split at hK
 ·
  refine ⟨_,_,?_,hK.2⟩;unfold aAppend0;simp only [h1,h2];exact ⟨g1,g2,g3,g4,g5,hK.1,trivial,trivial,trivial⟩
 ·
  split at hK
  ·
   rename_i h3;obtain ⟨k1,k2,k3,k4,k5⟩:=hK;refine ⟨_,_,?_,k5⟩;unfold aAppend0;simp only [h1,h2,h3];exact ⟨g1,g2,g3,g4,g5,k1,k2,k3,k4,trivial,trivial,trivial⟩
  ·
   rename_i h3;obtain ⟨k1,k2,k3,k4,k5⟩:=hK;refine ⟨_,_,?_,k5⟩;unfold aAppend0;simp only [h1,h2,h3];exact ⟨g1,g2,g3,g4,g5,k1,k2,k3,k4,trivial,trivial,trivial⟩
  · exact hK.elim
 · exact hK.elim
theorem append_wit {P:Program} {T:TypeId} {s x:AV} {h:qab} {K:AV→qab→Prop} (hK:aAppend P T s x h K):∃ r h2,aAppend P T s x h (fun r1 h1=>True∧r1=r∧h1=h2)∧K r h2:=by
 unfold aAppend at hK ⊢;split at hK
 ·
  split at hK
  ·
   rename_i h1;split at hK
   ·
    rename_i h3;obtain ⟨k1,k2,k3,k4,k5,k6,k7,k8,k9,k10⟩:=hK;refine ⟨_,_,?_,k10⟩;simp only [h1,h3];exact ⟨k1,k2,k3,k4,k5,k6,k7,k8,k9,by simp⟩
   · exact hK.elim
  · exact hK.elim
 · exact append_wit0 hK
section
variable {P:Program} {E:Ent}
def callA (P:Program) (N:Nat) (Q:AExit→Env→Prop) (tl:List Oper) (ds:List (Option Tmp)) (l:List Oper) (e:Env) (acc:List DR) (pd:qab→Prop):Prop :=
 match l with
 | []=>False
 | o::l =>
  match o.op with
  | .call { callee:=.builtin .append,args,argTypes } =>
   o.guard=none∧qdy N o.dst∧acc.all DR.isQ=true∧qaw e true args.toList∧match args.toList,argTypes.toList with
   | [x,y],[T,T']=>T'=T∧aAppend P T (e.getS x) (e.getS y) e.h
     (fun r h2=>pd h2∧opsDG P N (ds++[o.dst]) l ((⟨o.dst,r,.quiet none⟩:DR).next ⟨e.t,h2⟩) (acc++[⟨o.dst,r,.quiet none⟩]) fun R e1=>R.all DR.isQ=true∧opsG P N Q (ds++o.dst::l.map (·.dst)) tl ⟨e1.t,h2⟩)
   | _,_=>False
  | _=>False
theorem awp_drawP {id:Nat} (m jc:Nat) (u:List Nat) {l:List Oper} {Q:AExit→Env→Prop} {e:Env} (hm:P.follows .mixedOrders=true) (hB:checkK m jc u l=true)
  (h:opsK1 P E.N u (callA P E.N Q (l.drop m)) jc 0 [] (l.take m) e [] fun _=>True):AWp P E (.region id l.toArray true) Q e:=by
 simp only [checkK,Bool.and_eq_true,decide_eq_true_eq] at hB;obtain ⟨⟨⟨⟨hml,hjm⟩,hdB⟩,hT⟩,hO⟩:=hB;have hok:=drawOk_of hdB;obtain ⟨R1,pd,hR1,hn,hs1,hK,hp⟩:=opsK1_wit h;simp only [List.nil_append] at hs1 hK hp;have hlen:(l.take m).length=m:=by simp;omega
 have hd:(l.take m).drop jc=(l.take m)[jc]'(by omega)::(l.take m).drop (jc+1):=List.drop_eq_getElem_cons (by omega);generalize hoc:(l.take m)[jc]'(by omega)=oc at hd;have hoc':(l.take m)[jc]?=some oc:=by rw [← hoc];exact List.getElem?_eq_getElem _
 rw [hd] at hK;simp only [callA] at hK;split at hK
 rotate_left
 · exact hK.elim
 rename_i args ats hop;obtain ⟨hg,hdst,hQ1,hall,hK⟩:=hK;have hq1:=allQ_iff.1 hQ1;split at hK
 rotate_left
 · exact hK.elim
 rename_i x y T T' hx hT';obtain ⟨hTT,hK⟩:=hK;obtain ⟨r,h2,hc,hKA'⟩:=append_wit hK;have hKA:=fun (_:True)=>hKA';have hord:∀ k,k<m→k≠jc→(k<jc∧(ordB (Region.before (l.take m).toArray) k jc=true∨k∈u))∨(jc<k∧ordB (Region.before (l.take m).toArray) jc k=true):=fun k hk hne=>by
  have:=List.all_eq_true.1 hO k (List.mem_range.2 hk);simp only [Bool.or_eq_true,beq_iff_eq,Bool.and_eq_true,decide_eq_true_eq,List.contains_iff_mem] at this;rcases this with (h1 | h1) | h1
  · exact (hne h1).elim
  · exact .inl h1
  · exact .inr h1
 have hops:oc.op.operands.toList=args.toList:=by
  rw [hop];simp [Op.operands,Call.operands]
 -- the results behind the call
 have hR2:∃ R2:List DR,R2.length=((l.take m).drop (jc+1)).length∧(∀ r',r'∈R2→∃ rd,r'.k=.quiet rd)∧(∀ (j:Nat) (r':DR),R2[j]?=some r'→∃ o,((l.take m).drop (jc+1))[j]?=some o∧r'.dst=o.dst) ∧
   (True→pd h2∧(∀ (j:Nat) (o:Oper),((l.take m).drop (jc+1))[j]?=some o→qd0 P E.N (((l.take m).take jc).map (·.dst)++[oc.dst]++(((l.take m).drop (jc+1)).take j).map (·.dst)) o (qai ((⟨oc.dst,r,.quiet none⟩:DR).next ⟨(qai e R1).t,h2⟩) (R2.take j)) (fun r'=>R2[j]?=some r')) ∧
    opsG P E.N Q ((l.take m).map (·.dst)) (l.drop m) ⟨(qai ((⟨oc.dst,r,.quiet none⟩:DR).next ⟨(qai e R1).t,h2⟩) R2).t,h2⟩):=by
  by_cases hk:True
  ·
   obtain ⟨h3,h4⟩:=hKA hk;obtain ⟨R2,g1,g2,g3⟩:=opsD_wit (opsDG_D h4);obtain ⟨g4,g5⟩:=g3;rw [List.all_append,List.all_append,Bool.and_eq_true,Bool.and_eq_true] at g4;refine ⟨R2,g1,allQ_iff.1 g4.2,fun j r' hj=>?_,fun _=>⟨h3,g2,?_⟩⟩
   ·
    have hlt:j<((l.take m).drop (jc+1)).length:=by rw [← g1];exact (List.getElem?_eq_some_iff.1 hj).1
    obtain ⟨_,r'',k1,k2,_⟩:=qdf (g2 j _ (List.getElem?_eq_getElem hlt));rw [hj] at k2;cases k2;exact ⟨_,List.getElem?_eq_getElem hlt,k1⟩
   ·
    have e1:((l.take m).take jc).map (·.dst)++oc.dst::((l.take m).drop (jc+1)).map (·.dst)=(l.take m).map (·.dst):=by
     have h5:=List.take_append_drop jc (l.take m);rw [hd] at h5
     conv=>rhs;rw [← h5]
     rw [List.map_append,List.map_cons]
    rw [e1] at g5;exact g5
  ·
   refine ⟨((l.take m).drop (jc+1)).map fun o=>⟨o.dst,.top,.quiet none⟩,by simp,fun r' hr=>?_,fun j r' hj=>?_,fun h=>(hk h).elim⟩
   ·
    rw [List.mem_map] at hr;obtain ⟨o,_,rfl⟩:=hr;exact ⟨none,rfl⟩
   ·
    rw [List.getElem?_map,Option.map_eq_some_iff] at hj;obtain ⟨o,h1,rfl⟩:=hj;exact ⟨o,h1,rfl⟩
 obtain ⟨R2,hl2,hq2,hd2,hall2⟩:=hR2;generalize hrc:(⟨oc.dst,r,.quiet none⟩:DR)=rc at hall2;have hget1:∀ k,k<jc→(R1++rc::R2)[k]?=R1[k]?:=fun k hk=>List.getElem?_append_left (by omega);have hgetc:(R1++rc::R2)[jc]?=some rc:=by rw [List.getElem?_append_right (by omega),hR1,Nat.sub_self];rfl
 have hget2:∀ k,jc<k→(R1++rc::R2)[k]?=R2[k - (jc+1)]?:=fun k hk=>by
  rw [List.getElem?_append_right (by omega),hR1,show k - jc=(k - (jc+1))+1 by omega,List.getElem?_cons_succ]
 have htake1:∀ k,k≤jc→(R1++rc::R2).take k=R1.take k:=fun k hk=>by rw [List.take_append_of_le_length (by omega)]
 have htake2:∀ k,jc<k→(R1++rc::R2).take k=R1++rc::R2.take (k - (jc+1)):=fun k hk=>by
  rw [List.take_append,List.take_of_length_le (by omega),hR1,show k - jc=(k - (jc+1))+1 by omega,List.take_succ_cons]
 have hqR:∀ r',r'∈R1++rc::R2→∃ rd,r'.k=.quiet rd:=fun r' hr=>by
  rcases List.mem_append.1 hr with hr | hr
  · exact hq1 r' (by simpa using hr)
  ·
   rcases List.mem_cons.1 hr with rfl | hr
   · rw [← hrc];exact ⟨none,rfl⟩
   · exact hq2 r' hr
 have hdrop:∀ k,jc<k→((l.take m).drop (jc+1))[k - (jc+1)]?=(l.take m)[k]?:=fun k hk=>by
  rw [List.getElem?_drop,show jc+1+(k - (jc+1))=k by omega]
 have dW:DRegW (l.take m) (R1++rc::R2):=by
  refine ⟨hok,by simp [hR1,hl2];omega,fun {k r'} hr=>?_,fun k s r' r'' i off cs _ _ hs hk=>?_⟩
  ·
   have hlt:k<m:=by have:=(List.getElem?_eq_some_iff.1 hr).1;simp [hR1,hl2] at this;omega
   obtain ⟨rd,hk⟩:=hqR r' (List.mem_of_getElem? hr);have hno:(∃ i off cs,r'.k=.store i off cs)→∀ o:Oper,isStore o.op=true:=by
    rintro ⟨i,off,cs,h⟩;rw [hk] at h;cases h
   rcases Nat.lt_trichotomy k jc with h1 | h1 | h1
   ·
    rw [hget1 k h1] at hr;have hlt':k<(l.take m).length:=by omega
    obtain ⟨_,r'',k1,k2,_⟩:=qdf (hs1 k _ h1 (List.getElem?_eq_getElem hlt'));rw [hr] at k2;cases k2;exact ⟨_,List.getElem?_eq_getElem hlt',k1,fun h=>hno h _⟩
   ·
    subst h1;rw [hgetc] at hr;cases hr;exact ⟨oc,hoc',by rw [← hrc],fun h=>hno h _⟩
   ·
    rw [hget2 k h1] at hr;obtain ⟨o,k1,k2⟩:=hd2 _ _ hr;rw [hdrop k h1] at k1;exact ⟨o,k1,k2,fun h=>hno h _⟩
  ·
   obtain ⟨rd,h1⟩:=hqR r'' (List.mem_of_getElem? hs);rw [h1] at hk;cases hk
 have d:DRegK P E (l.take m) e (R1++rc::R2) jc h2 True Q:=by
  refine ⟨dW,by omega,hqR,fun k o ho hne hno=>?_,fun hk k o ho hne hno=>?_,fun o ho=>?_⟩
  ·
   have hlt:k<m:=by have:=(List.getElem?_eq_some_iff.1 ho).1;omega
   rcases hord k hlt hne with ⟨h1,_⟩ | ⟨_,h1⟩
   ·
    rw [htake1 k (by omega),hget1 k h1];exact hs1 k o h1 ho
   · rw [h1] at hno;cases hno
  ·
   have hlt:k<m:=by have:=(List.getElem?_eq_some_iff.1 ho).1;omega
   obtain ⟨g1,g2,_⟩:=hall2 hk;rcases hord k hlt hne with ⟨h1,h3 | h3⟩ | ⟨h1,_⟩
   · rw [h3] at hno;cases hno
   ·
    have:=(hp h2 g1).2 k o h1 (by rwa [Nat.zero_add]) ho;rw [htake1 k (by omega),hget1 k h1,(qa8 (R:=R1.take k) (fun r' hr=>hq1 r' (by simpa using List.mem_of_mem_take hr)) e h2).1];exact this
   ·
    have:=g2 (k - (jc+1)) o (by rw [hdrop k h1];exact ho);have e1:((l.take m).take jc).map (·.dst)++[oc.dst]++(((l.take m).drop (jc+1)).take (k - (jc+1))).map (·.dst)=((l.take m).take k).map (·.dst):=by
     rw [show (l.take m).take k=(l.take m).take (jc+(1+(k - (jc+1)))) by congr 1;omega,List.take_add,hd,List.map_append,Nat.add_comm 1,List.take_succ_cons];simp
    rw [e1] at this;rw [htake2 k h1,hget2 k h1];have e2:qai ⟨e.t,h2⟩ (R1++rc::R2.take (k - (jc+1)))=qai (rc.next ⟨(qai e R1).t,h2⟩) (R2.take (k - (jc+1))):=by
     have:∀ (A B:List DR) (x:Env),qai x (A++B)=qai (qai x A) B:=by
      intro A
      induction A with
      | nil=>intro B x;rfl
      | cons a A ih=>intro B x;exact ih B _
     rw [this,(qa8 (R:=R1) (fun r' hr=>hq1 r' (by simpa using hr)) e h2).1];rfl
    rw [e2];exact this
  ·
   rw [hoc'] at ho;cases ho;refine ⟨r,by rw [hg];rfl,hdst,by rw [hgetc,← hrc,hg];rfl,?_⟩;rw [htake1 jc (Nat.le_refl _),List.take_of_length_le (by omega)];show opEff P (qck (qai e R1) oc) oc.op _ _;have hh:=(qa8 (R:=R1) (fun r' hr=>hq1 r' (by simpa using hr)) e e.h).2;have hge:∀ z,z∈args.toList→(qck (qai e R1) oc).getS z=(qai e R1).getS z:=fun z hz=>by
    unfold Env.getS;rw [get_narrow (by rw [hops];exact hz)]
   have hall':=qdi (o:=oc) (fun z hz=>by rw [hops];exact hz) hall;rw [hop];simp only [opEff,hx,hT'];rw [hx] at hall' hge;refine ⟨hall',hTT,?_⟩;rw [hge x (by simp),hge y (by simp)];exact hc
 refine awp_drawK0 m jc hm hml hT d fun hk=>?_;obtain ⟨_,_,g3⟩:=hall2 hk;have:∀ (A B:List DR) (x:Env),qai x (A++B)=qai (qai x A) B:=by
  intro A
  induction A with
  | nil=>intro B x;rfl
  | cons a A ih=>intro B x;exact ih B _
 have e3:(qai e (R1++rc::R2)).t=(qai (rc.next ⟨(qai e R1).t,h2⟩) R2).t:=by
  rw [this];show (qai (rc.next (qai e R1)) R2).t=_;have q:=next_quiet (r:=rc) (by rw [← hrc];exact ⟨none,rfl⟩) (qai e R1) h2;rw [q.1,(qa8 hq2 (rc.next (qai e R1)) h2).1]
 rw [e3];exact g3
end
attribute [go_sem] callA
end Go.Abs

namespace Go.Abs
def bysL (l:List ByteArray):List (List UInt8):=l.map (·.data.toList)
def ofBys (l:List (List UInt8)):List ByteArray:=l.map fun x=>⟨x.toArray⟩
def qdo (l:List ByteArray):List ByteArray:=ofBys ((bysL l).mergeSort fun x y=>decide (x≤y))
theorem mem_sortS {l:List ByteArray} {z:ByteArray}:z∈qdo l↔z∈l:=by
 simp [qdo,ofBys,bysL,List.mem_mergeSort];constructor
 · rintro ⟨a,⟨b,h,rfl⟩,rfl⟩;exact h
 · intro h;exact ⟨_,⟨z,h,rfl⟩,rfl⟩
theorem ble_total (a b:List UInt8):(decide (a≤b)||decide (b≤a))=true:=by
 rcases Decidable.em (a≤b) with h | h
 · simp [h]
 ·
  have:=List.le_total a b;simp [h] at this;simp [this]
theorem ble_trans (a b c:List UInt8) (h1:decide (a≤b)=true) (h2:decide (b≤c)=true):decide (a≤c)=true:=decide_eq_true (List.le_trans (of_decide_eq_true h1) (of_decide_eq_true h2))
theorem sortS_pw (l:List ByteArray):((bysL l).mergeSort fun x y=>decide (x≤y)).Pairwise fun a b=>a≤b :=
 (List.pairwise_mergeSort (le:=fun x y:List UInt8=>decide (x≤y)) ble_trans ble_total (bysL l)).imp fun h=>of_decide_eq_true h
theorem sortS_perm {l l':List ByteArray} (h:l'.Perm l):qdo l'=qdo l:=by
 unfold qdo;congr 1;refine List.Perm.eq_of_pairwise (le:=fun a b:List UInt8=>a≤b) (fun a b _ _ h1 h2=>List.le_antisymm h1 h2) (sortS_pw l') (sortS_pw l) ?_;exact ((List.mergeSort_perm _ _).trans (h.map _)).trans (List.mergeSort_perm _ _).symm
theorem sortS_len (l:List ByteArray):(qdo l).length=l.length:=by simp [qdo,ofBys,bysL,List.length_mergeSort]
end Go.Abs

namespace Go.Abs
theorem relL_vals {c:Ctx} {l:List Value} {vs:Array Value} (h:RelL c (l.map .val) vs):vs=l.toArray:=by
 apply Array.ext
 · simpa using h.1
 ·
  intro i h1 h2;have h3:i<l.length:=by simpa using h2
  have:=h.2 i (.val l[i]) vs[i] (by simp [h3]) (by simp [h1]);simpa using this.val_inv
theorem apure_calls {P:Program} {f:FuncId} {l:List Value} {r:Value} (hr:strOk r=true) (he:Enter P f) (hc:∀ w,Calls P f l.toArray w fun e w'=>e=.returned r∧w'=w):APure P f (l.map .val) (.val r):=fun h=>by
 refine ⟨he,fun c w vs hs ha=>?_⟩;rw [relL_vals ha];refine (hc w).mono ?_;rintro e w' ⟨rfl,rfl⟩;exact ⟨.ret (.val r),h,c,⟨rfl,rfl⟩,.val r hr,hs,.refl 0 hs⟩
end Go.Abs

namespace Go.Abs
section
variable {P:Program} {E:Ent}
theorem rawset_ok {c:Ctx} {h:qab} {w:World} (s:HSim c h w) (k:E.ok c h w) {i b:Nat} {f f':Array Value→Obj} {xs:List AV} (hi:h[i]?=some (.raw b f xs)) {vs:Array Value} (hv:w.heap[b]?=some (f vs))
  (hvs:vs.size=xs.length∧∀ (j:Nat) (x:AV) (v:Value),xs[j]?=some x→vs[j]?=some v→Rel c x v) :
  HSim c (h.set i (.raw b f' xs)) (w.putObj b (f' vs))∧E.ok c (h.set i (.raw b f' xs)) (w.putObj b (f' vs)):=by
 obtain ⟨hb,_⟩:=s.obj i _ hi;have hh:=hv;have hlt:b<w.heap.size:=(Array.getElem?_eq_some_iff.1 hh).1;have hoth:∀ g,g≠b→(w.putObj b (f' vs)).heap[g]?=w.heap[g]?:=fun g hg=>World.putObj_heap_other hg;have hsame:(w.putObj b (f' vs)).heap[b]?=some (f' vs):=World.putObj_heap_same hlt;have hbo:qag c i (.raw b f xs)=some b:=hb;have hsize:(w.putObj b (f' vs)).heap.size=w.heap.size:=by simp [World.putObj]
 have holt:∀ j p b',(h.set i (.raw b f' xs))[j]?=some p→qag c j p=some b'→∃ o0,h[j]?=some o0∧qag c j o0=some b':=fun j p b' hj hb'=>by
  rcases qad hj with ⟨rfl,rfl⟩ | ⟨hne,h1⟩
  · exact ⟨_,hi,hb'⟩
  · exact ⟨p,h1,hb'⟩
 constructor
 ·
  refine ⟨fun g j v hD=>?_,fun j hj=>s.dom j (by simpa using hj),fun j p hj=>?_,fun j j' p p' b' hj hj' hb1 hb2=>?_,fun j p b' m v hj hb1 hD=>?_⟩
  ·
   have hg:g≠b:=fun e=>by
    subst e;exact s.sep i _ g j v hi hbo hD
   rw [World.cell?_of_block (w:=w) (hoth g hg)];exact s.data g j v hD
  ·
   rcases qad hj with ⟨rfl,rfl⟩ | ⟨hne,h1⟩
   · exact ⟨hb,vs,hsame,hvs⟩
   ·
    refine (s.obj j p h1).keep (.refl c) (fun _=>rfl) fun b' hb'=>hoth b' fun e=>hne ?_;subst e;exact s.apart j i p _ b' h1 hi hb' hbo
  ·
   obtain ⟨o1,h1,h1'⟩:=holt j p b' hj hb1;obtain ⟨o2,h2,h2'⟩:=holt j' p' b' hj' hb2;exact s.apart j j' o1 o2 b' h1 h2 h1' h2'
  ·
   rcases qad hj with ⟨rfl,rfl⟩ | ⟨hne,h1⟩
   · have:=s.sep j (.raw b f xs) b' m v hi hb1 hD;exact this
   · exact s.sep j p b' m v h1 hb1 hD
 ·
  refine ⟨k.edom,k.ext,k.blk0,by simpa using k.len,k.os,k.tape,k.output,by rw [hsize];exact k.size,fun g hg hno=>?_,fun j p b' hj hb1=>?_,k.dold⟩
  ·
   have hne:g≠b:=fun e=>by
    subst e;rcases k.newobj i _ g hi hbo with ⟨o0,h0,h1⟩ | h2
    · exact hno i o0 h0 h1
    · omega
   rw [hoth g hne];exact k.frame g hg hno
  ·
   obtain ⟨o1,h1,h1'⟩:=holt j p b' hj hb1;exact k.newobj j o1 b' h1 h1'
theorem newraw_ok {c:Ctx} {h:qab} {w:World} (s:HSim c h w) (k:E.ok c h w) (f:Array Value→Obj) {xs:List AV} {vs:Array Value}
  (hvs:vs.size=xs.length∧∀ (j:Nat) (x:AV) (v:Value),xs[j]?=some x→vs[j]?=some v→Rel c x v) :
  ∃ c',c.le c'∧HSim c' (h++[.raw w.heap.size f xs]) (w.alloc (f vs))∧E.ok c' (h++[.raw w.heap.size f xs]) (w.alloc (f vs)):=by
 have hw:∀ b,b<w.heap.size→(w.alloc (f vs)).heap[b]?=w.heap[b]?:=fun b hb=>by first | exact heap_alloc_old w _ b hb | exact heap_alloc_old w _ hb
 have s1:HSim c h (w.alloc (f vs)):=s.ext hw (.refl c) (fun _ _=>rfl) (fun _ _ _ h=>.inl h) s.dom;have k1:E.ok c h (w.alloc (f vs)):=k.ext' s hw (.refl c) (fun _=>rfl) rfl rfl rfl (alloc_le w _) (fun _ _ _ h=>.inl h);have hle:c.le (c.addBlk h.length w.heap.size):=Ctx.addBlk_le (s.dom h.length (Nat.le_refl _)).1;have hblk:(c.addBlk h.length w.heap.size).blk h.length=some w.heap.size:=by simp [Ctx.addBlk]
 have hb:∀ b',qag (c.addBlk h.length w.heap.size) h.length (.raw w.heap.size f xs)=some b'→b'=w.heap.size:=fun b' hb'=>by
  simp only [qag,hblk,Option.some.injEq] at hb';exact hb'.symm
 exact ⟨_,hle,s1.push (s.fresh (Nat.le_refl _)) (s.noD (Nat.le_refl _)) ⟨hblk,vs,heap_alloc_new w _,hvs.1,fun j x v hx hv=>(hvs.2 j x v hx hv).mono hle⟩ hb,k1.push s1 k.size hb⟩
def WF (ro:Option Nat):Fence:={ Fence.wide with round:=ro }
theorem callsIn_wf {ro:Option Nat} {n:Nat} {f:FuncId} {args:Array Value} {w:World} {R:Ending→World→Prop}:CallsIn (WF ro) n P f args w R↔Calls P f args w R :=
 (show CallsIn (WF ro) n P f args w R↔CallsIn Fence.wide n P f args w R from Iff.rfl).trans callsIn_wide
theorem rowsIn_wf {ro:Option Nat} {n:Nat} {row:String} {args:Array Value} {w:World} {R:Value→World→Prop} (h:Rows P row args w R):RowsIn (WF ro) n P row args w R:=fun c cs _=>by
 obtain ⟨v,w',hR,hs⟩:=h c cs;exact ⟨v,w',hR,(stepsIn_wide (P:=P)).2 hs⟩
def isDef:Op→Bool
 | .defer _=>true
 | _=>false
theorem oper_in {ro:Option Nat} {n:Nat} {o:Oper} (hd:isDef o.op=false) {a:Act} {w:World} {nx:Act→World→Prop} {Q:Exit→Act→World→Prop} (h:o.wp P a w nx Q):o.wpIn (WF ro) n P a w nx Q:=by
 refine ⟨fun _ _=>trivial,?_⟩;rw [Oper.semAt_eq _ _ _ (fun c hc=>by rw [hc] at hd;cases hd)];unfold Oper.wp at h;generalize (execOp a.eval o).run P w=r at h ⊢;cases r with
 | ok x w' =>
  cases x with
  | value v=>exact h
  | skip=>exact h
  | defer d=>exact h
  | enter f args=>exact ⟨fun h=>(by cases h),callsIn_wf.2 (h.mono fun e w'' he=>by cases e<;>exact he)⟩
  | row r args=>exact ⟨fun h=>(by cases h),rowsIn_wf h⟩
  | _=>exact h.elim
 | halt x w'=>cases x<;>first | exact h | exact h.elim
theorem list_in {ro:Option Nat} {n:Nat} {ops:Array Oper} {Q:Exit→Act→World→Prop} (hQ:¬ LetsOut Q):∀ {l:List Oper} {a:Act} {w:World},(l.all fun o=>!isDef o.op)=true→wpList P ops Q l a w→wpListIn (WF ro) n P ops Q l a w
 | [],_,_,_,h=>h
 | o::l,a,w,hd,h=>by
  simp only [List.all_cons,Bool.and_eq_true,Bool.not_eq_true'] at hd;unfold wpList at h;unfold wpListIn;split at h
  ·
   rename_i hw;rw [if_pos hw];rcases h with h | ⟨_,h⟩
   · exact Oper.wpIn_mono (fun a w hh=>list_in hQ hd.2 hh) (oper_in hd.1 h)
   · exact (hQ h).elim
  ·
   rename_i hw;rw [if_neg hw];exact ⟨fun _ _=>trivial,list_in hQ hd.2 h⟩
theorem any_in {ro:Option Nat} {n:Nat} {ops:Array Oper} {Q:Exit→Act→World→Prop} (hQ:¬ LetsOut Q) (hd:∀ (i:Nat) (o:Oper),ops[i]?=some o→isDef o.op=false):∀ {fuel:Nat} {L:Array Bool} {a:Act} {w:World},wpAny P .any ops Q fuel L a w→wpAnyIn (WF ro) n P .any ops Q fuel L a w
 | 0,_,_,_,h=>h
 | fuel+1,L,a,w,h=>by
  refine ⟨h.1,fun i hi=>?_⟩;have h1:=h.2 i hi;unfold wpOp at h1;unfold wpOpIn;split at h1
  ·
   rename_i ho;rw [ho];exact any_in hQ hd h1
  ·
   rename_i o ho;rw [ho];simp only;split at h1
   ·
    rename_i hw;rw [if_pos hw];rcases h1 with h1 | ⟨_,h1⟩
    · exact Oper.wpIn_mono (fun a w hh=>any_in hQ hd hh) (oper_in (hd i o ho) h1)
    · exact (hQ h1).elim
   ·
    rename_i hw;rw [if_neg hw];exact ⟨fun _ _=>trivial,any_in hQ hd h1⟩
def concI (E:Ent) (Q:AExit→List Deferred→Env→Prop):Exit→Act→World→Prop:=fun x a w=>∃ x' ds e c a0,a=ddf ds a0∧Q x' ds e∧XR c x' x∧Sim E.N c e a0 w∧E.ok c e.h w
theorem concI_lets {Q:AExit→List Deferred→Env→Prop}:¬ LetsOut (concI E Q):=fun ⟨a,w,x',ds,e,c,a0,_,_,hx,_⟩=>by cases x'<;>exact hx
theorem conc_I {Q:AExit→List Deferred→Env→Prop} {ds:List Deferred} {x:Exit} {a:Act} {w:World} (h:conc E (fun x e=>Q x ds e) x a w):concI E Q x (ddf ds a) w:=by
 obtain ⟨x',e,c,hq,hx,s,k⟩:=h;exact ⟨x',ds,e,c,a,rfl,hq,hx,s,k⟩
def AWpI (P:Program) (E:Ent) (ro:Option Nat) (code:Code) (Q:AExit→List Deferred→Env→Prop) (ds:List Deferred) (e:Env):Prop :=
 ∀ n c a w,Sim E.N c e a w→E.ok c e.h w→code.wpIn (WF ro) n P (concI E Q) (ddf ds a) w
def thenI (K:List Deferred→Env→Prop) (Q:AExit→List Deferred→Env→Prop):AExit→List Deferred→Env→Prop
 | .normal,ds,e=>K ds e
 | x,ds,e=>Q x ds e
def blockI (id:Nat) (Q:AExit→List Deferred→Env→Prop):AExit→List Deferred→Env→Prop
 | .exit i,ds,e=>if i=id then Q .normal ds e else Q (.exit i) ds e
 | x,ds,e=>Q x ds e
variable {ro:Option Nat} {Q:AExit→List Deferred→Env→Prop} {ds:List Deferred} {e:Env}
theorem awpI_mono {code:Code} {Q':AExit→List Deferred→Env→Prop} (h:AWpI P E ro code Q' ds e) (hq:∀ x ds e,Q' x ds e→Q x ds e):AWpI P E ro code Q ds e:=fun n c a w s k =>
 wpIn_mono (h n c a w s k) fun _ _ _ ⟨x',ds',e',c',a0,h1,h2,h3⟩=>⟨x',ds',e',c',a0,h1,hq _ _ _ h2,h3⟩
theorem awpI_wk {code:Code} {e1:Env} (hw:Wk E e e1) (h:AWpI P E ro code Q ds e1):AWpI P E ro code Q ds e:=fun n c a w s k=>by
 obtain ⟨c1,s1,k1⟩:=hw c a w s k;exact h n c1 a w s1 k1
theorem awpI_skip (h:Q .normal ds e):AWpI P E ro .skip Q ds e:=fun n c a w s k=>wpIn_skip ⟨.normal,ds,e,c,a,rfl,h,trivial,s,k⟩
theorem awpI_ret (h:Q .ret ds e):AWpI P E ro .ret Q ds e:=fun n c a w s k=>wpIn_ret ⟨.ret,ds,e,c,a,rfl,h,trivial,s,k⟩
theorem awpI_exit {id:Nat} (h:Q (.exit id) ds e):AWpI P E ro (.exit id) Q ds e:=fun n c a w s k=>wpIn_exit ⟨.exit id,ds,e,c,a,rfl,h,rfl,s,k⟩
theorem awpI_seq {x y:Code} (h:AWpI P E ro x (thenI (fun ds e=>AWpI P E ro y Q ds e) Q) ds e):AWpI P E ro (.seq x y) Q ds e:=fun n c a w s k=>by
 refine wpIn_seq (wpIn_mono (h n c a w s k) ?_);rintro ex a' w' ⟨x',ds',e',c',a0,rfl,hq,hx,hs',ok'⟩;cases x' with
 | normal=>cases ex<;>simp only [XR] at hx;exact hq n c' a0 w' hs' ok'
 | exit i=>cases ex<;>simp only [XR] at hx;exact ⟨.exit i,ds',e',c',a0,rfl,hq,hx,hs',ok'⟩
 | ret=>cases ex<;>simp only [XR] at hx;exact ⟨.ret,ds',e',c',a0,rfl,hq,trivial,hs',ok'⟩
 | panic v =>
  cases ex with
  | panic ch=>exact ⟨.panic v,ds',e',c',a0,rfl,hq,hx,hs',ok'⟩
  | _=>simp only [XR] at hx
theorem awpI_block {id:Nat} {b:Code} (h:AWpI P E ro b (blockI id Q) ds e):AWpI P E ro (.block id b) Q ds e:=fun n c a w s k=>by
 refine wpIn_block (wpIn_mono (h n c a w s k) ?_);rintro ex a' w' ⟨x',ds',e',c',a0,rfl,hq,hx,hs',ok'⟩;cases x' with
 | normal=>cases ex<;>simp only [XR] at hx;exact ⟨.normal,ds',e',c',a0,rfl,hq,trivial,hs',ok'⟩
 | exit i =>
  cases ex with
  | exit j =>
   simp only [XR] at hx;subst hx;simp only [Exit.inBlock];simp only [blockI] at hq;split
   · rename_i hi;rw [if_pos hi] at hq;exact ⟨.normal,ds',e',c',a0,rfl,hq,trivial,hs',ok'⟩
   · rename_i hi;rw [if_neg hi] at hq;exact ⟨.exit i,ds',e',c',a0,rfl,hq,rfl,hs',ok'⟩
  | _=>simp only [XR] at hx
 | ret=>cases ex<;>simp only [XR] at hx;exact ⟨.ret,ds',e',c',a0,rfl,hq,trivial,hs',ok'⟩
 | panic v =>
  cases ex with
  | panic ch=>exact ⟨.panic v,ds',e',c',a0,rfl,hq,hx,hs',ok'⟩
  | _=>simp only [XR] at hx
theorem awpI_cond {x:Operand} {t f:Code} {b:Bool} (hb:e.get x=.val (.bool b)) (ht:b=true→AWpI P E ro t Q ds e) (hf:b=false→AWpI P E ro f Q ds e):AWpI P E ro (.cond x t f) Q ds e :=
 fun n c a w s k=>wpIn_cond_split (Rel.bool (hb▸s.eval x)) (fun h=>ht h n c a w s k) (fun h=>hf h n c a w s k)
theorem wpIn_loop_by {F:Fence} {n:Nat} {ι:Type} {c:Code} {Q:Exit→Act→World→Prop} {a:Act} {w:World} (I:ι→Act→World→Prop) (μ:ι→Nat) (i0:ι) (h₀:I i0 a w)
  (round:∀ i a w,I i a w→c.wpIn F n P (Exit.then (fun a' w'=>∃ j,I j a' w'∧μ j<μ i) Q) a w):(Code.loop c).wpIn F n P Q a w:=by
 intro b k cs hro hb hr;have key:∀ m i a w,μ i=m→I i a w →
   ∃ e a' w',Q e a' w'∧ArrivesIn (Machine.fenced P F) P (lone (b.atR a (.code c::.inLoop c::k)) cs w) b k cs e a' w':=by
  intro m
  induction m using Nat.strongRecOn with
  | _ m ih =>
   intro i a w hn hI;obtain ⟨e,a₁,w₁,hq,harr⟩:=round i a w hI b (.inLoop c::k) cs hro hb hr;cases e with
   | normal =>
    obtain ⟨j,hI₁,hlt⟩:=hq;obtain ⟨e₂,a₂,w₂,hq₂,harr₂⟩:=ih (μ j) (hn▸hlt) j a₁ w₁ rfl hI₁;exact ⟨e₂,a₂,w₂,hq₂,.of_steps (StepsIn.trans harr (.one (fenced_calm hb hr rfl) stepR_inLoop)) harr₂⟩
   | exit id=>exact ⟨_,a₁,w₁,hq,.pass (x:=.inLoop c) rfl (fun _ _=>.inl (by simp)) harr⟩
   | goto l=>exact ⟨_,a₁,w₁,hq,.pass (x:=.inLoop c) rfl (fun _ _=>.inl (by simp)) harr⟩
   | ret=>exact ⟨_,a₁,w₁,hq,.pass (x:=.inLoop c) rfl (fun _ _=>.inl (by simp)) harr⟩
   | panic ch=>exact ⟨_,a₁,w₁,hq,.pass (x:=.inLoop c) rfl (fun _ _=>.inl (by simp)) harr⟩
   | outgrown=>exact ⟨_,a₁,w₁,hq,.pass (x:=.inLoop c) rfl (fun _ _=>.inl (by simp)) harr⟩
 obtain ⟨e,a',w',hq,harr⟩:=key _ i0 a w rfl h₀;exact ⟨e,a',w',hq,.of_steps (.one (fenced_calm hb hr rfl) stepR_loop) harr⟩
theorem awpI_loop {ι:Type} {b:Code} (I:ι→Prop) (S:ι→List Deferred×Env) (μ:ι→Nat) (i0:ι) (h0:I i0) (hd:ds=(S i0).1) (hw:Wk E e (S i0).2)
  (round:∀ i,I i→AWpI P E ro b (thenI (fun ds' e'=>∃ j,I j∧μ j<μ i∧ds'=(S j).1∧Wk E e' (S j).2) Q) (S i).1 (S i).2):AWpI P E ro (.loop b) Q ds e:=fun n c a w s k=>by
 subst hd;refine wpIn_loop_by (ι:=ι) (fun i a w=>I i∧∃ c a0,a=ddf (S i).1 a0∧Sim E.N c (S i).2 a0 w∧E.ok c (S i).2.h w) μ i0 ?_ ?_
 ·
  obtain ⟨c1,s1,k1⟩:=hw c a w s k;exact ⟨h0,c1,a,rfl,s1,k1⟩
 ·
  rintro i a w ⟨hI,c,a0,rfl,s,k⟩;refine wpIn_mono (round i hI n c a0 w s k) ?_;rintro ex a' w' ⟨x',ds',e',c',a1,rfl,hq,hx,hs',ok'⟩;cases x' with
  | normal =>
   cases ex<;>simp only [XR] at hx;obtain ⟨j,hj,hlt,rfl,hwk⟩:=hq;obtain ⟨c2,s2,k2⟩:=hwk c' a1 w' hs' ok';exact ⟨j,⟨hj,c2,a1,rfl,s2,k2⟩,hlt⟩
  | exit i=>cases ex<;>simp only [XR] at hx;exact ⟨.exit i,ds',e',c',a1,rfl,hq,hx,hs',ok'⟩
  | ret=>cases ex<;>simp only [XR] at hx;exact ⟨.ret,ds',e',c',a1,rfl,hq,trivial,hs',ok'⟩
  | panic v =>
   cases ex with
   | panic ch=>exact ⟨.panic v,ds',e',c',a1,rfl,hq,hx,hs',ok'⟩
   | _=>simp only [XR] at hx
theorem awpI_region {id:Nat} {l:List Oper} (hd:(l.all fun o=>!isDef o.op)=true) (h:opsG P E.N (fun x e=>Q x ds e) [] l e):AWpI P E ro (.region id l.toArray false) Q ds e:=fun n c a w s k =>
 wpIn_region_list (list_in concI_lets hd (wpList_ddf (fun _ _ _ hh=>conc_I hh) (by simpa using qcb l [] e (by simp) (by simpa using h) c a w s k)))
end
end Go.Abs
