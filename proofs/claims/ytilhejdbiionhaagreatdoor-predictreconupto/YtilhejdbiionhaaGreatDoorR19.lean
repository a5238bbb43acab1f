/- Part 19 of a proof: AbsRp, AbsOe -/
import Derived.Test.YtilhejdbiionhaaGreatDoorR14
import Derived.Test.YtilhejdbiionhaaGreatDoorR16
set_option linter.all false

namespace Go.Abs
theorem slotX_congrR{X:Nat→Bool}{t:Tmp}:∀{l l':List DR} {k:Nat} {x:AV},l.length=l'.length→(∀j,X (k+j)=true→l[j]?=l'[j]?)→slotX X t k l x=slotX X t k l' x
 | [],[],_,_,_,_=>rfl
 | [],_::_,_,_,h,_=>by simp at h
 |_::_,[],_,_,h,_=>by simp at h
 |r::l,r'::l',k,x,hl,h=>by
  simp only[slotX];have h0:(bif X k&&decide (r.dst=some t)then r.res else x)=(bif X k&&decide (r'.dst=some t)then r'.res else x):=by
   cases hX:X k with
   |false=>rfl
   |true =>
    have:=h 0 (by simpa using hX);simp only[List.getElem?_cons_zero,Option.some.injEq]at this;rw[this]
  rw[h0];exact slotX_congrR (by simpa using hl) fun j hj=>by
   have:=h (j+1) (by rwa [show k+(j+1)=k+1+j by omega]);simpa using this
section
variable {P:Program} {E:Ent}
theorem dinv_congr{e0:Env}{R R':List DR}{X:Nat→Bool}{c:Ctx}{a:Act}{w:World}(hl:R.length=R'.length)(hq:∀r,r∈R→∃rd,r.k=.quiet rd)(hq':∀r,r∈R'→∃rd,r.k=.quiet rd)(h:∀j,X j=true→R[j]?=R'[j]?)(inv:DInv E e0 R X c a w):DInv E e0 R' X c a w:=by
 refine⟨inv.defers,inv.size,fun t=>?_,?_,?_,fun i r xs hr hk _=>?_,fun r hr i off cs hk=>?_⟩
 ·rw[←slotX_congrR hl fun j hj=>h j (by simpa using hj)];exact inv.tmps t
 ·have:=inv.hs;rw[qca hq]at this;rwa [qca hq']
 ·have:=inv.ok;rw[qca hq]at this;rwa [qca hq']
 ·obtain⟨rd,h1⟩:=hq' r (List.mem_of_getElem? hr);rw[h1]at hk;cases hk
 ·obtain⟨j,h1,_⟩:=qea hr;obtain⟨rd,h2⟩:=hq' r (List.mem_of_getElem? h1);rw[h2]at hk;cases hk
theorem dregW_quiet{l:List Oper}{R:List DR}(hok:DrawOk l)(hl:R.length=l.length)(hd:∀(k:Nat) (r:DR) (o:Oper),R[k]?=some r→l[k]?=some o→r.dst=o.dst)(hq:∀r,r∈R→∃rd,r.k=.quiet rd):DRegW l R:=by
 refine⟨hok,hl,fun {k r} hr=>?_,fun k s r r' i off cs _ _ hs hk=>?_⟩
 ·have hlt:k<l.length:=by rw[←hl];exact(List.getElem?_eq_some_iff.1 hr).1
  have ho:l[k]?=some l[k]:=List.getElem?_eq_getElem hlt;refine⟨_,ho,hd k r _ hr ho,?_⟩;rintro⟨i,off,cs,hk⟩;obtain⟨rd,h1⟩:=hq r (List.mem_of_getElem? hr);rw[h1]at hk;cases hk
 ·obtain⟨rd,h1⟩:=hq r' (List.mem_of_getElem? hs);rw[h1]at hk;cases hk
theorem draw_effR{l:List Oper}{e0:Env}{R:List DR}(d:DRegW l R)(hq:∀r,r∈R→∃rd,r.k=.quiet rd){X:Nat→Bool}(hcl:qem l X){c:Ctx}{a:Act}{w:World}(inv:DInv E e0 R X c a w){i:Nat}{o:Oper}(hi:l[i]?=some o)(hXi:X i=false)
  (hdep:∀e,e∈o.after→Region.binds .any e=true→X e.on=true) (hg:o.guard=none) (hd:qee E.N o.dst) {S:AV→qab→Prop} {Qa:AExit→Env→Prop}
  (hc:opEff P (qc6 (qal e0 (R.take i)) o) o.op S fun v h1=>Qa (.panic v) ⟨[],h1⟩) :
  wpOp P l.toArray (conc E Qa) i (fun a' w'=>∃r h1 c',S r h1∧∀R':List DR,R'.length=R.length→(∀r',r'∈R'→∃rd,r'.k=.quiet rd)→DRegW l R'→R'[i]?=some ⟨o.dst,r,.quiet none⟩→(∀j,X j=true→R[j]?=R'[j]?)→DInv E ⟨e0.t,h1⟩ R' (fun j=>if j=i then true else X j) c' a' w') a w:=by
 have hslots:=draw_slots d hcl inv.tmps hi hXi hdep;have hs:HSim c e0.h w:=by have:=inv.hs;rwa [qca hq]at this
 have hok:E.ok c e0.h w:=by have:=inv.ok;rwa [qca hq]at this
 have hhe:(qal e0 (R.take i)).h=e0.h:=by rw[envAt_h,quiet_fresh (fun r hr=>hq r (List.mem_of_mem_take hr)),List.append_nil]
 have hget:(l.toArray)[i]?=some o:=by simpa using hi
 have hsim:Sim E.N c (qc6 (qal e0 (R.take i)) o) a w:=⟨inv.defers,inv.size,fun t=>by
  simp only[qc6,lookT_map];split
  ·rename_i ht;exact hslots t (List.mem_append_left _ ht)
  ·exact .top _,by simp only[qc6,hhe];exact hs⟩
 unfold wpOp;simp only[hget];rw[if_pos (by simp[Region.wanted,hg])];refine .inl (eff_ok (E:=⟨E.N,c,e0.h,w⟩) hsim (by simp only[qc6,hhe];exact Ent.ok.refl _ hs) hc (fun v h1 c' w' u hR hle hs' hk' hru=>?_) (fun v h1 c' w' u hR hle hs' hk' hru=>?_))
 ·refine⟨v,h1,c',hR,fun R' hl' hq' d' hr hag=>?_⟩;have inv':=dinv_congr hl'.symm hq hq' hag inv;refine⟨by cases o.dst<;>exact inv'.defers,by cases o.dst<;>simp[Act.put,inv'.size],fun t=>?_,by rw[qca hq'];exact hs',by rw[qca hq'];exact hok.trans hk',fun j rj xs hj hjk _=>?_,fun rj hrj i' off cs hjk=>?_⟩
  ·have h1:=slotX_add (X:=X) (t:=t) (k:=0) (x:=qbb e0.t t) hr (fun j r' hr' hd hn=>by
    obtain⟨o',ho',hd',_⟩:=d'.dst hr';exact d.ok.uniq i o j o' hi ho' hn (by rw[←hd',hd]))
   simp only[Nat.zero_add]at h1;show Rel c' (slotX _ t 0 R' (qbb e0.t t)) _;rw[h1];cases hdst:o.dst with
   |none =>
    rw[if_neg (by simp)];exact(inv'.tmps t).mono hle
   |some dd =>
    have hlt:dd<a.tmps.size:=by rw[inv.size];rw[hdst]at hd;exact hd
    by_cases hdt:dd=t
    ·subst hdt;rw[if_pos rfl];simpa[Act.put,hlt]using hru
    ·rw[if_neg (by simpa using hdt)];have:=(inv'.tmps t).mono hle;simpa[Act.put,Array.getD_eq_getD_getElem?,Array.getElem?_setIfInBounds_ne hdt]using this
  ·obtain⟨rd,hk⟩:=hq' rj (List.mem_of_getElem? hj);rw[hk]at hjk;cases hjk
  ·obtain⟨j,h1,_⟩:=qea hrj;obtain⟨rd,hk⟩:=hq' rj (List.mem_of_getElem? h1);rw[hk]at hjk;cases hjk
 ·exact⟨.panic v,⟨[],h1⟩,c',hR,hru,⟨inv.defers,inv.size,fun _=>.top _,hs'⟩,hok.trans hk'⟩
theorem any_okI{l:List Oper}{m:Nat}(hm:m≤l.length)(t:TailOk m l)(hok:DrawOk (l.take m)){Q:Exit→Act→World→Prop}{Inv:(Nat→Bool)→Act→World→Prop}
  (hstep:∀(X:Nat→Bool) (a:Act) (w:World) (i:Nat) (o:Oper),qem (l.take m) X→Inv X a w→(l.take m)[i]?=some o→X i=false→(∀e,e∈o.after→Region.binds .any e=true→X e.on=true)→wpOp P (l.take m).toArray Q i (fun a' w'=>Inv (fun j=>if j=i then true else X j) a' w') a w)
  (hQ:∀(X:Nat→Bool) (a:Act) (w:World),(∀j,j<m→X j=true)→Inv X a w→wpList P l.toArray Q (l.drop m) a w) :
  ∀(fuel:Nat) (L:Array Bool),L.size=l.length→(∀j,m≤j→L.getD j false=false)→L.toList.count false≤fuel→qem l (fun j=>L.getD j false)→∀(a:Act) (w:World),Inv (fun j=>L.getD j false) a w→wpAny P .any l.toArray Q fuel L a w:=by
 intro fuel;have hlen:(l.take m).length=m:=by simp;omega
 have hiff:∀(L:Array Bool),(∀j,m≤j→L.getD j false=false)→(∀j,j<m→L.getD j false=true)→∀j,j<l.length→(L.getD j false=true↔j<m):=fun L hge hall j _=>by
  refine⟨fun h=>?_,hall j⟩;rcases Nat.lt_or_ge j m with h1|h1
  ·exact h1
  ·rw[hge j h1]at h;cases h
 have hcount:∀(k:Nat) (L:Array Bool),L.size=l.length→(∀j,k≤j→L.getD j false=false)→k≤l.length→l.length - k≤L.toList.count false:=fun k L hL hk hkl=>by
  have h1:(L.toList.drop k).count false=l.length - k:=by
   have h2:(L.toList.drop k).count false=(L.toList.drop k).length:=List.count_eq_length.2 fun b hb=>by
    obtain⟨j,hj⟩:=List.getElem?_of_mem hb;rw[List.getElem?_drop]at hj;have:=hk (k+j) (by omega);simp only[Array.getD_eq_getD_getElem?]at this;rw[←Array.getElem?_toList,hj]at this;simpa using this.symm
   rw[h2];simp[hL]
  have h3:(L.toList.drop k).Sublist L.toList:=List.drop_sublist _ _;have:=h3.count_le false;omega
 induction fuel with
 |zero =>
  intro L hL hge hc hcl a w inv;by_cases hall:∀j,j<m→L.getD j false=true
  ·have:=hcount m L hL hge hm;exact tail_any t 0 m L (Nat.le_refl _) hm hL (hiff L hge hall) (by omega) a w (hQ _ a w hall inv)
  ·obtain⟨i,h1,h2,_⟩:=least_out hall;have:=count_ne (L:=L) (i:=i) (by omega) h2;omega
 |succ fuel ih =>
  intro L hL hge hc hcl a w inv;by_cases hall:∀j,j<m→L.getD j false=true
  ·have:=hcount m L hL hge hm;exact tail_any t (fuel+1) m L (Nat.le_refl _) hm hL (hiff L hge hall) (by omega) a w (hQ _ a w hall inv)
  ·obtain⟨i0,g1,g2,g3⟩:=least_out hall;refine⟨fun hr=>?_,fun i hi=>?_⟩
   ·have:=ready_min t.after hL (i:=i0) (by omega) g2 g3;rw[hr]at this;cases this
   ·obtain⟨o,h1,h2,h3⟩:=ready_mem hi;have hlt:i<L.size:=by rw[hL];exact(List.getElem?_eq_some_iff.1 h1).1
    have hLi:L.getD i false=false:=by simpa[Array.getD,hlt]using h2
    have him:i<m:=by
     rcases Nat.lt_or_ge i m with h4|h4
     ·exact h4
     ·have:=ord_in hcl i i0 o h1 h3 (t.ord i i0 h4 (by omega) (by omega));rw[show L.getD i0 false=false from g2]at this;cases this
    have h1':(l.take m)[i]?=some o:=by rw[List.getElem?_take,if_pos him];exact h1
    have hcl':qem (l.take m) fun j=>L.getD j false:=fun j o' hj ho' e he hb=>by
     have hjm:j<m:=by have:=(List.getElem?_eq_some_iff.1 ho').1;omega
     rw[List.getElem?_take,if_pos hjm]at ho';exact hcl j o' hj ho' e he hb
    refine wpOp_take him (fun o' j want ho' hg=>?_) (wpOp_mono ?_ (hstep _ a w i o hcl' inv h1' hLi h3))
    ·rw[h1]at ho';cases ho';have:=hok.guard i o j want h1' hg;omega
    ·rintro a' w' inv';rw[set_fun hlt]at inv';refine ih _ (by simpa using hL) (fun j hj=>?_) ?_ (closed_set hlt h1 h3 hcl) a' w' inv'
     ·have hf:=congrFun (set_fun hlt) j;rw[←hf,if_neg (by omega)];exact hge j hj
     ·have:=count_set_lt hlt hLi;omega
theorem wp_any_start{id:Nat}{l:List Oper}{m:Nat}{Q:AExit→Env→Prop}{e:Env}(hm:P.follows .mixedOrders=true)(hml:m≤l.length)(t:TailOk m l)(hok:DrawOk (l.take m)){Inv:(Nat→Bool)→Act→World→Prop}
  (h0:∀c a w,Sim E.N c e a w→E.ok c e.h w→Inv (fun _=>false) a w)
  (hstep:∀(X:Nat→Bool) (a:Act) (w:World) (i:Nat) (o:Oper),qem (l.take m) X→Inv X a w→(l.take m)[i]?=some o→X i=false→(∀e,e∈o.after→Region.binds .any e=true→X e.on=true)→wpOp P (l.take m).toArray (conc E Q) i (fun a' w'=>Inv (fun j=>if j=i then true else X j) a' w') a w)
  (hQ:∀(X:Nat→Bool) (a:Act) (w:World),(∀j,j<m→X j=true)→Inv X a w→wpList P l.toArray (conc E Q) (l.drop m) a w):AWp P E (.region id l.toArray true) Q e:=fun c a w s k=>by
 refine wp_region_any hm ?_;have hs':HSim c e.h { w with drawn:=w.drawn+1 }:=s.hs.ext (fun _ _=>rfl) (.refl c) (fun _ _=>rfl) (fun _ _ _ h=>.inl h) s.hs.dom;have hk':E.ok c e.h { w with drawn:=w.drawn+1 }:=k.ext' s.hs (fun _ _=>rfl) (.refl c) (fun _=>rfl) rfl rfl rfl (Nat.le_refl _) (fun _ _ _ h=>.inl h);have hff:(fun _=>false)=fun j=>(Array.replicate l.toArray.size false).getD j false:=by
  funext j;simp[Array.getD_eq_getD_getElem?,Array.getElem?_replicate];split<;>rfl
 refine any_okI hml t hok hstep hQ _ _ (by simp) (fun j _=>(congrFun hff j).symm) (by simp) ?_ a _ ?_
 ·intro j o hj;rw[←hff]at hj;cases hj
 ·rw[←hff];exact h0 c a _ ⟨s.defers,s.size,s.tmps,hs'⟩ hk'
theorem envAt_app:∀(A B:List DR) (x:Env),qal x (A++B)=qal (qal x A) B
 | [],_,_=>rfl
 |_::A,B,x=>envAt_app A B _
def callC2(P:Program)(N:Nat)(Q:AExit→Env→Prop)(tl:List Oper)(ds:List (Option Tmp))(l:List Oper)(e:Env)(acc:List DR):Prop :=
 match l with
 | []=>False
 |o::l =>
  match o.op with
  | .call { callee:=.value f,args,.. } =>
   o.guard=none∧qee N o.dst∧qaw e true (f::args.toList)∧match e.getS f with
   | .fn (.func fid) first caps=>TCall P fid (qbi e.h (first++args.toList.map e.getS++caps)) e
     (fun e x h2=>match x with
      | .ret r=>opsDG P N (ds++[o.dst]) l ((⟨o.dst,r,.quiet none⟩:DR).next ⟨e.t,h2⟩) (acc++[⟨o.dst,r,.quiet none⟩]) fun R e1=>R.all DR.isQ=true∧opsG P N Q (ds++o.dst::l.map (·.dst)) tl ⟨e1.t,h2⟩
      | .panic v=>Q (.panic v) ⟨[],h2⟩) ⟨⟩
   |_=>False
  |_=>False
def callC1(P:Program)(N:Nat)(Q:AExit→Env→Prop)(tl:List Oper)(ds:List (Option Tmp))(l:List Oper)(e:Env)(acc:List DR)(pd:qab→Prop):Prop :=
 match l with
 | []=>False
 |o::l =>
  match o.op with
  | .call { callee:=.value f,args,.. } =>
   o.guard=none∧qee N o.dst∧acc.all DR.isQ=true∧qaw e true (f::args.toList)∧match e.getS f with
   | .fn (.func fid) first caps=>TCall P fid (qbi e.h (first++args.toList.map e.getS++caps)) e
     (fun e x h2=>match x with
      | .ret r=>pd h2∧callC2 P N Q tl (ds++[o.dst]) l ((⟨o.dst,r,.quiet none⟩:DR).next ⟨e.t,h2⟩) (acc++[⟨o.dst,r,.quiet none⟩])
      | .panic v=>Q (.panic v) ⟨[],h2⟩) ⟨⟩
   |_=>False
  |_=>False
def checkCC(m jc:Nat)(u:List Nat)(l:List Oper):Bool :=
 let b:=Region.before (l.take m).toArray
 decide (m≤l.length)&&decide (jc+1<m)&&drawB (l.take m)&&tailB m l&&ordB b jc (jc+1) &&
 ((List.range m).all fun k=>k == jc||k == jc+1||(decide (k<jc)&&(ordB b k jc||u.contains k)&&ordB b k (jc+1))||(decide (jc+1<k)&&ordB b (jc+1) k))
theorem callE{f:Operand}{args:Array Operand}{ats:Array TypeId}{o:Oper}(hop:o.op=.call { callee:=.value f,args:=args,argTypes:=ats }){e e':Env}(ht:e'.t=e.t)(hh:e'.h=e.h)(hall:qaw e true (f::args.toList)){fid:FuncId}{first caps:List AV}(hf:e.getS f=.fn (.func fid) first caps){S:AEnd→qab→Prop}{K KP:AV→qab→Prop}(hc:ACalls P fid (qbi e.h (first++args.toList.map e.getS++caps)) e.h S)(hS:∀x h',S x h'→match x with| .ret v=>K v h'| .panic v=>KP v h') :
  opEff P (qc6 e' o) o.op K KP:=by
 obtain⟨t,h⟩:=e;obtain⟨t',h'⟩:=e';subst ht;subst hh;have hops:o.op.operands.toList=f::args.toList:=by
  rw[hop];simp[Op.operands,Call.operands]
 have hge:∀x,x∈f::args.toList→(qc6 ⟨t',h'⟩ o).getS x=(⟨t',h'⟩:Env).getS x:=fun x hx=>by
  unfold Env.getS;rw[get_narrow (by rw[hops];exact hx)]
 have hmap:args.toList.map (qc6 ⟨t',h'⟩ o).getS=args.toList.map (⟨t',h'⟩:Env).getS:=List.map_congr_left fun x hx=>hge x (by simp[hx]);have hall':=haveAll_narrow (o:=o) (fun x hx=>by rw[hops];exact hx) hall;rw[hop];refine⟨hall',?_⟩;rw[hge f (by simp),hf,hmap];exact hc.mono fun x h' hx=>hS x h' hx
theorem dregW_map{l:List Oper}{R:List DR}(hok:DrawOk l)(hd:R.map (·.dst)=l.map (·.dst))(hq:∀r,r∈R→∃rd,r.k=.quiet rd):DRegW l R :=
 dregW_quiet hok (by simpa using congrArg List.length hd) (fun k r o hr ho=>by
  have:=congrArg (·[k]?) hd
  simp only[List.getElem?_map,hr,ho,Option.map_some,Option.some.injEq]at this;exact this) hq
theorem steps_dst{l:List Oper}{R:List DR}{ds:List (Option Tmp)}{f:Nat→Env}(hl:R.length=l.length)(h:∀(k:Nat) (o:Oper),l[k]?=some o→stepD P E.N (ds++(l.take k).map (·.dst)) o (f k) (fun r=>R[k]?=some r)):R.map (·.dst)=l.map (·.dst):=by
 apply List.ext_getElem?;intro k;rw[List.getElem?_map,List.getElem?_map];rcases Nat.lt_or_ge k l.length with hk|hk
 ·obtain⟨_,r,h1,h2,_⟩:=stepD_dst (h k _ (List.getElem?_eq_getElem hk));rw[h2,List.getElem?_eq_getElem hk,Option.map_some,Option.map_some,h1]
 ·rw[List.getElem?_eq_none hk,List.getElem?_eq_none (by omega)];rfl
def dumR(l:List Oper):List DR:=l.map fun o=>⟨o.dst,.top,.quiet none⟩
theorem dumR_q(l:List Oper):∀r,r∈dumR l→∃rd,r.k=.quiet rd:=fun r hr=>by
 obtain⟨o,_,rfl⟩:=List.mem_map.1 hr;exact⟨none,rfl⟩
theorem dumR_d(l:List Oper):(dumR l).map (·.dst)=l.map (·.dst):=by simp[dumR]
theorem awp_drawCC{id:Nat}(m jc:Nat)(u:List Nat){l:List Oper}{Q:AExit→Env→Prop}{e:Env}(hm:P.follows .mixedOrders=true)(hB:checkCC m jc u l=true)
  (h:opsK1 P E.N u (callC1 P E.N Q (l.drop m)) jc 0 [] (l.take m) e [] fun _=>True):AWp P E (.region id l.toArray true) Q e:=by
 simp only[checkCC,Bool.and_eq_true,decide_eq_true_eq]at hB;obtain⟨⟨⟨⟨⟨hml,hjm⟩,hdB⟩,hT⟩,h12⟩,hO⟩:=hB;have hok:=drawOk_of hdB;obtain⟨A,pd,hA,hn,hs1,hK,hp⟩:=opsK1_wit h;simp only[List.nil_append]at hs1 hK hp;have hlen:(l.take m).length=m:=by simp;omega
 generalize hl0:l.take m=l0 at *;have hd1:l0.drop jc=l0[jc]'(by omega)::l0.drop (jc+1):=List.drop_eq_getElem_cons (by omega);have hd2:l0.drop (jc+1)=l0[jc+1]'(by omega)::l0.drop (jc+2):=List.drop_eq_getElem_cons (by omega);have ho1:l0[jc]?=some (l0[jc]'(by omega)):=List.getElem?_eq_getElem _;have ho2:l0[jc+1]?=some (l0[jc+1]'(by omega)):=List.getElem?_eq_getElem _;generalize l0[jc]'(by omega)=o1 at hd1 ho1;generalize l0[jc+1]'(by omega)=o2 at hd2 ho2;generalize hl2:l0.drop (jc+2)=l2 at hd2;have hl2g:∀k,jc+1<k→l2[k - (jc+2)]?=l0[k]?:=fun k hk=>by
  rw[←hl2,List.getElem?_drop,show jc+2+(k - (jc+2))=k by omega]
 have hl2l:l2.length=m - (jc+2):=by rw[←hl2];simp[hlen]
 rw[hd2]at hd1;rw[hd1]at hK;have hord:∀k,k<m→k≠jc→k≠jc+1→(k<jc∧(ordB (Region.before l0.toArray) k jc=true∨k∈u)∧ordB (Region.before l0.toArray) k (jc+1)=true)∨(jc+1<k∧ordB (Region.before l0.toArray) (jc+1) k=true):=fun k hk h1 h2=>by
  have:=List.all_eq_true.1 hO k (List.mem_range.2 hk);simp only[Bool.or_eq_true,beq_iff_eq,Bool.and_eq_true,decide_eq_true_eq,List.contains_iff_mem]at this;rcases this with((h3|h3)|h3)|h3
  ·exact(h1 h3).elim
  ·exact(h2 h3).elim
  ·exact .inl ⟨h3.1.1,h3.1.2,h3.2⟩
  ·exact .inr h3
 have hsp:l0=l0.take jc++o1::o2::l2:=by rw[←hd1,List.take_append_drop]
 have hmap0:l0.map (·.dst)=(l0.take jc).map (·.dst)++o1.dst::o2.dst::l2.map (·.dst):=by
  conv=>lhs;rw[hsp]
  simp
 simp only[callC1]at hK;split at hK
 rotate_left
 ·exact hK.elim
 rename_i f1 args1 ats1 hop1;obtain⟨hg1,hdst1,hQ1,hall1,hK⟩:=hK;have hqA:=allQ_iff.1 hQ1;split at hK
 rotate_left
 ·exact hK.elim
 rename_i fid1 first1 caps1 hf1
 have hAh:=(qb8 hqA e e.h).2;have hAt:∀h':qab,qal ⟨e.t,h'⟩ A=⟨(qal e A).t,h'⟩:=fun h'=>(qb8 hqA e h').1;have hAd:A.map (·.dst)=(l0.take jc).map (·.dst):=steps_dst (P:=P) (E:=E) (ds:=[]) (f:=fun k=>qal e (A.take k)) (by simp[hA,hlen];omega) fun k o ho=>by
  have hk:k<jc:=by have:=(List.getElem?_eq_some_iff.1 ho).1;simp at this;omega
  rw[List.getElem?_take,if_pos hk]at ho;rw[List.nil_append,List.take_take,Nat.min_eq_left (by omega)];exact hs1 k o hk ho
 -- what holds of the first call's outcome
 obtain⟨S1,hS1⟩:∃S1:AV→qab→Prop,S1=fun r h2=>pd h2∧callC2 P E.N Q (l.drop m) ((l0.take jc).map (·.dst)++[o1.dst]) (o2::l2) ((⟨o1.dst,r,.quiet none⟩:DR).next ⟨(qal e A).t,h2⟩) (A++[⟨o1.dst,r,.quiet none⟩]):=⟨_,rfl⟩
 obtain⟨S2,hS2⟩:∃S2:AV→qab→AV→qab→List DR→Prop,S2=fun r1 h1 r2 h2 B=>B.length=l2.length∧(∀r,r∈B→∃rd,r.k=.quiet rd) ∧
   (∀(k:Nat) (o:Oper),l2[k]?=some o→stepD P E.N ((l0.take jc).map (·.dst)++[o1.dst]++[o2.dst]++(l2.take k).map (·.dst)) o (qal ((⟨o2.dst,r2,.quiet none⟩:DR).next ⟨((⟨o1.dst,r1,.quiet none⟩:DR).next ⟨(qal e A).t,h1⟩).t,h2⟩) (B.take k)) (fun r=>B[k]?=some r)) ∧
   opsG P E.N Q (l0.map (·.dst)) (l.drop m) ⟨(qal ((⟨o2.dst,r2,.quiet none⟩:DR).next ⟨((⟨o1.dst,r1,.quiet none⟩:DR).next ⟨(qal e A).t,h1⟩).t,h2⟩) B).t,h2⟩:=⟨_,rfl⟩
 let rc1:AV→DR:=fun r=>⟨o1.dst,r,.quiet none⟩
 let rc2:AV→DR:=fun r=>⟨o2.dst,r,.quiet none⟩
 have hR0:DRegW l0 (A++dumR (o1::o2::l2))∧∀r,r∈A++dumR (o1::o2::l2)→∃rd,r.k=.quiet rd:=by
  have hq:∀r,r∈A++dumR (o1::o2::l2)→∃rd,r.k=.quiet rd:=fun r hr=>(List.mem_append.1 hr).elim (hqA r) (dumR_q _ r);exact⟨dregW_map hok (by rw[hmap0,List.map_append,hAd,dumR_d];rfl) hq,hq⟩
 have hR1:∀r1,DRegW l0 (A++rc1 r1::dumR (o2::l2))∧∀r,r∈A++rc1 r1::dumR (o2::l2)→∃rd,r.k=.quiet rd:=fun r1=>by
  have hq:∀r,r∈A++rc1 r1::dumR (o2::l2)→∃rd,r.k=.quiet rd:=fun r hr=>(List.mem_append.1 hr).elim (hqA r) fun hr=>(List.mem_cons.1 hr).elim (fun e=>⟨none,by rw[e]⟩) (dumR_q _ r);exact⟨dregW_map hok (by rw[hmap0,List.map_append,hAd,List.map_cons,dumR_d];rfl) hq,hq⟩
 have hR2:∀r1 h1 r2 h2 B,S2 r1 h1 r2 h2 B→DRegW l0 (A++rc1 r1::rc2 r2::B)∧∀r,r∈A++rc1 r1::rc2 r2::B→∃rd,r.k=.quiet rd:=fun r1 h1 r2 h2 B hS=>by
  rw[hS2]at hS;have hq:∀r,r∈A++rc1 r1::rc2 r2::B→∃rd,r.k=.quiet rd:=fun r hr=>(List.mem_append.1 hr).elim (hqA r) fun hr=>(List.mem_cons.1 hr).elim (fun e=>⟨none,by rw[e]⟩) fun hr=>(List.mem_cons.1 hr).elim (fun e=>⟨none,by rw[e]⟩) (hS.2.1 r);have hBd:B.map (·.dst)=l2.map (·.dst):=steps_dst (P:=P) (E:=E) hS.1 hS.2.2.1
  exact⟨dregW_map hok (by rw[hmap0,List.map_append,hAd,List.map_cons,List.map_cons,hBd]) hq,hq⟩
 have hgl:∀(x:List DR) k,k<jc→(A++x)[k]?=A[k]?:=fun x k hk=>List.getElem?_append_left (by omega);have htl:∀(x:List DR) k,k≤jc→(A++x).take k=A.take k:=fun x k hk=>List.take_append_of_le_length (by omega);have hite:∀{X:Nat→Bool} (i j:Nat) (b:Bool),j≠i→X j=b→(fun j=>if j=i then true else X j) j=b:=fun {X} i j b hne hX=>by
  show(if j=i then true else X j)=b;rw[if_neg hne];exact hX
 have hltk:(l0.take jc).length=jc:=by rw[List.length_take,hlen];omega
 have hAq:∀k (h':qab),qal ⟨e.t,h'⟩ (A.take k)=⟨(qal e (A.take k)).t,h'⟩:=fun k h'=>(qb8 (fun r hr=>hqA r (List.mem_of_mem_take hr)) e h').1
 let Inv:(Nat→Bool)→Act→World→Prop:=fun X a w =>
  (X jc=false∧∃c,DInv E ⟨e.t,e.h⟩ (A++dumR (o1::o2::l2)) X c a w) ∨
  (X jc=true∧X (jc+1)=false∧∃r1 h1 c,S1 r1 h1∧DInv E ⟨e.t,h1⟩ (A++rc1 r1::dumR (o2::l2)) X c a w) ∨
  (X jc=true∧X (jc+1)=true∧∃r1 h1 r2 h2 B c,S1 r1 h1∧S2 r1 h1 r2 h2 B∧DInv E ⟨e.t,h2⟩ (A++rc1 r1::rc2 r2::B) X c a w)
 refine wp_any_start (Inv:=Inv) hm hml (tailOk_of hT) (by rw[hl0];exact hok) (fun c a w s k=>.inl ⟨rfl,c,dinv_start (e0:=⟨e.t,e.h⟩) s k⟩) (fun X a w i o hcl inv hi hXi hdep=>?_) (fun X a w hall inv=>?_)
 ·rw[hl0]at hcl hi⊢;have him:i<m:=by have:=(List.getElem?_eq_some_iff.1 hi).1;omega
  have hdn:∀j,j<m→X j=true→∀k,ordB (Region.before l0.toArray) k j=true→X k=true:=fun j hj hXj k hk=>by
   have hjo:l0[j]?=some (l0[j]'(by omega)):=List.getElem?_eq_getElem _;exact ord_in hcl j k _ hjo (hcl j _ hXj hjo) hk
  have hpi:∀k,ordB (Region.before l0.toArray) k i=true→X k=true:=fun k hk=>ord_in hcl i k o hi hdep hk;rcases inv with⟨hX1,c,inv⟩|⟨hX1,hX2,r1,h1,c,hs,inv⟩|⟨hX1,hX2,r1,h1,r2,h2,B,c,hs,hss,inv⟩
  ·have hX2:X (jc+1)=false:=by
    cases hb:X (jc+1)with
    |false=>rfl
    |true=>have:=hdn (jc+1) (by omega) hb jc h12;rw[hX1]at this;cases this
   by_cases hij:i=jc
   ·subst hij;rw[ho1]at hi;cases hi;have hag:∀r1,∀j,X j=true→(A++dumR (o1::o2::l2))[j]?=(A++rc1 r1::dumR (o2::l2))[j]?:=fun r1 j hj=>by
     rcases Nat.lt_or_ge j m with hjm'|hjm'
     ·rcases Nat.lt_trichotomy j i with h1|h1|h1
      ·rw[hgl _ j h1,hgl _ j h1]
      ·subst h1;rw[hX1]at hj;cases hj
      ·rcases Nat.lt_or_ge (i+1) j with h3|h3
       ·rcases hord j hjm' (by omega) (by omega)with h4|h4
        ·omega
        ·have:=hdn j hjm' hj (i+1) h4.2;rw[hX2]at this;cases this
       ·have:j=i+1:=by omega
        subst this;rw[hX2]at hj;cases hj
     ·rw[List.getElem?_eq_none (by simp[dumR,hA,hl2l];omega),List.getElem?_eq_none (by simp[dumR,hA,hl2l];omega)]
    have heff:opEff P (qc6 (qal ⟨e.t,e.h⟩ ((A++dumR (o1::o2::l2)).take i)) o1) o1.op S1 fun v h1=>Q (.panic v) ⟨[],h1⟩:=by
     rw[htl _ i (Nat.le_refl _),List.take_of_length_le (by omega)];refine callE hop1 (e:=qal e A) rfl rfl hall1 hf1 hK fun x h' hx=>?_;cases x with
     |ret v=>rw[hS1];exact hx
     |panic v=>exact hx
    refine wpOp_mono ?_ (draw_effR (e0:=⟨e.t,e.h⟩) hR0.1 hR0.2 hcl inv ho1 hXi hdep hg1 hdst1 heff);rintro a' w' ⟨r,h1,c',hS,hD⟩;refine .inr (.inl ⟨by simp,hite _ _ _ (by omega) hX2,r,h1,c',hS,hD _ ?_ (hR1 r).2 (hR1 r).1 ?_ (hag r)⟩)
    ·simp[dumR]
    ·rw[List.getElem?_append_right (by omega),hA,Nat.sub_self];rfl
   ·have hij2:i<jc:=by
     rcases Nat.lt_trichotomy i (jc+1)with h1|h1|h1
     ·omega
     ·subst h1;have:=hpi jc h12;rw[hX1]at this;cases this
     ·rcases hord i him hij (by omega)with h4|h4
      ·omega
      ·have:=hpi (jc+1) h4.2;rw[hX2]at this;cases this
    have hlenE:E.h.length≤e.h.length:=by have:=inv.ok.len;rwa [qca hR0.2]at this
    refine wpOp_mono ?_ (draw_step (Q:=conc E Q) (e0:=⟨e.t,e.h⟩) hR0.1 hlenE hcl inv hi hXi hdep ?_)
    ·rintro a' w' ⟨c',inv'⟩;exact .inl ⟨hite _ _ _ (Ne.symm hij) hX1,c',inv'⟩
    ·rw[htl _ i (by omega),hgl _ i hij2];exact hs1 i o hij2 hi
  ·by_cases hij:i=jc+1
   ·subst hij;rw[ho2]at hi;cases hi;have hsC:=hs;rw[hS1]at hsC;obtain⟨_,hC2⟩:=hsC;simp only[callC2]at hC2;split at hC2
    rotate_left
    ·exact hC2.elim
    rename_i f2 args2 ats2 hop2;obtain⟨hg2,hdst2,hall2,hC2⟩:=hC2;split at hC2
    rotate_left
    ·exact hC2.elim
    rename_i fid2 first2 caps2 hf2
    have hag:∀r2 B,B.length=l2.length→∀j,X j=true→(A++rc1 r1::dumR (o2::l2))[j]?=(A++rc1 r1::rc2 r2::B)[j]?:=fun r2 B hBl j hj=>by
     rcases Nat.lt_or_ge j m with hjm'|hjm'
     ·rcases Nat.lt_trichotomy j (jc+1)with h3|h3|h3
      ·rcases Nat.lt_or_ge j jc with h4|h4
       ·rw[hgl _ j h4,hgl _ j h4]
       ·have:j=jc:=by omega
        subst this;rw[List.getElem?_append_right (by omega),List.getElem?_append_right (by omega),hA,Nat.sub_self];rfl
      ·subst h3;rw[hX2]at hj;cases hj
      ·rcases hord j hjm' (by omega) (by omega)with h4|h4
       ·omega
       ·have:=hdn j hjm' hj (jc+1) h4.2;rw[hX2]at this;cases this
     ·rw[List.getElem?_eq_none (by simp[dumR,hA,hl2l];omega),List.getElem?_eq_none (by simp[hA,hBl,hl2l];omega)]
    have henv:qal ⟨e.t,h1⟩ ((A++rc1 r1::dumR (o2::l2)).take (jc+1))=(rc1 r1).next ⟨(qal e A).t,h1⟩:=by
     rw[List.take_append,List.take_of_length_le (by omega),hA,show jc+1 - jc=0+1 by omega,List.take_succ_cons,List.take_zero,envAt_app,hAt];rfl
    have heff:opEff P (qc6 (qal ⟨e.t,h1⟩ ((A++rc1 r1::dumR (o2::l2)).take (jc+1))) o2) o2.op (fun r2 h2=>∃B,S2 r1 h1 r2 h2 B) fun v h1=>Q (.panic v) ⟨[],h1⟩:=by
     rw[henv];refine callE hop2 (e:=(rc1 r1).next ⟨(qal e A).t,h1⟩) rfl rfl hall2 hf2 hC2 fun x h' hx=>?_;cases x with
     |ret v =>
      obtain⟨B,g1,g2,g3⟩:=opsD_wit (opsDG_D hx);obtain⟨g4,g5⟩:=g3;refine⟨B,?_⟩;rw[hS2];refine⟨g1,?_,g2,?_⟩
      ·have g4:=allQ_iff.1 g4;exact fun r hr=>g4 r (List.mem_append_right _ hr)
      ·rw[hmap0];have e1:(l0.take jc).map (·.dst)++[o1.dst]++o2.dst::l2.map (·.dst)=(l0.take jc).map (·.dst)++o1.dst::o2.dst::l2.map (·.dst):=by simp
       rw[←e1];exact g5
     |panic v=>exact hx
    refine wpOp_mono ?_ (draw_effR (e0:=⟨e.t,h1⟩) (hR1 r1).1 (hR1 r1).2 hcl inv ho2 hXi hdep hg2 hdst2 heff);rintro a' w' ⟨r2,h2,c',⟨B,hS⟩,hD⟩;have hBl:B.length=l2.length:=by have h3:=hS;rw[hS2]at h3;exact h3.1
    refine .inr (.inr ⟨hite _ _ _ (by omega) hX1,by simp,r1,h1,r2,h2,B,c',hs,hS,hD _ ?_ (hR2 _ _ _ _ _ hS).2 (hR2 _ _ _ _ _ hS).1 ?_ (hag r2 B hBl)⟩)
    ·simp[dumR,hBl]
    ·rw[List.getElem?_append_right (by omega),hA,show jc+1 - jc=0+1 by omega];rfl
   ·have hne:i≠jc:=fun e=>by subst e;rw[hX1]at hXi;cases hXi
    have hij2:i<jc∧i∈u:=by
     rcases hord i him hne hij with h4|h4
     ·refine⟨h4.1,h4.2.1.resolve_left fun h5=>?_⟩;have:=hdn jc (by omega) hX1 i h5;rw[hXi]at this;cases this
     ·have:=hpi (jc+1) h4.2;rw[hX2]at this;cases this
    have hlenE:E.h.length≤h1.length:=by have:=inv.ok.len;rwa [qca (hR1 r1).2]at this
    refine wpOp_mono ?_ (draw_step (Q:=conc E Q) (e0:=⟨e.t,h1⟩) (hR1 r1).1 hlenE hcl inv hi hXi hdep ?_)
    ·rintro a' w' ⟨c',inv'⟩;exact .inr (.inl ⟨hite _ _ _ (Ne.symm hne) hX1,hite _ _ _ (Ne.symm hij) hX2,r1,h1,c',hs,inv'⟩)
    ·rw[htl _ i (by omega),hgl _ i hij2.1,hAq];have hs':=hs;rw[hS1]at hs';exact(hp h1 hs'.1).2 i o hij2.1 (by rw[Nat.zero_add];exact hij2.2) hi
  ·have hne1:i≠jc:=fun e=>by subst e;rw[hX1]at hXi;cases hXi
   have hne2:i≠jc+1:=fun e=>by subst e;rw[hX2]at hXi;cases hXi
   have hij2:jc+1<i:=by
    rcases hord i him hne1 hne2 with h4|h4
    ·have:=hdn (jc+1) (by omega) hX2 i h4.2.2;rw[hXi]at this;cases this
    ·exact h4.1
   have hlenE:E.h.length≤h2.length:=by have:=inv.ok.len;rwa [qca (hR2 _ _ _ _ _ hss).2]at this
   refine wpOp_mono ?_ (draw_step (Q:=conc E Q) (e0:=⟨e.t,h2⟩) (hR2 _ _ _ _ _ hss).1 hlenE hcl inv hi hXi hdep ?_)
   ·rintro a' w' ⟨c',inv'⟩;exact .inr (.inr ⟨hite _ _ _ (Ne.symm hne1) hX1,hite _ _ _ (Ne.symm hne2) hX2,r1,h1,r2,h2,B,c',hs,hss,inv'⟩)
   ·have hs2:=hss;rw[hS2]at hs2;have:=hs2.2.2.1 (i - (jc+2)) o (by rw[hl2g i hij2];exact hi);have e1:(l0.take jc).map (·.dst)++[o1.dst]++[o2.dst]++(l2.take (i - (jc+2))).map (·.dst)=(l0.take i).map (·.dst):=by
     have e5:(l0.take jc).take i=l0.take jc:=List.take_of_length_le (by omega);have e6:l0.take i=l0.take jc++o1::o2::l2.take (i - (jc+2)):=by
      have e7:l0.take i=(l0.take jc++o1::o2::l2).take i:=by rw[←hsp]
      rw[e7,List.take_append,e5,hltk,show i - jc=(i - (jc+2))+1+1 by omega,List.take_succ_cons,List.take_succ_cons]
     rw[e6];simp
    rw[e1]at this;have e2:(A++rc1 r1::rc2 r2::B).take i=A++rc1 r1::rc2 r2::B.take (i - (jc+2)):=by
     rw[List.take_append,List.take_of_length_le (by omega),hA,show i - jc=(i - (jc+2))+1+1 by omega,List.take_succ_cons,List.take_succ_cons]
    have e3:(A++rc1 r1::rc2 r2::B)[i]?=B[i - (jc+2)]?:=by
     rw[List.getElem?_append_right (by omega),hA,show i - jc=(i - (jc+2))+1+1 by omega,List.getElem?_cons_succ,List.getElem?_cons_succ]
    have e4:qal ⟨e.t,h2⟩ (A++rc1 r1::rc2 r2::B.take (i - (jc+2)))=qal ((rc2 r2).next ⟨((rc1 r1).next ⟨(qal e A).t,h1⟩).t,h2⟩) (B.take (i - (jc+2))):=by
     rw[envAt_app,hAt];have e5:=(next_quiet (r:=rc1 r1) ⟨none,rfl⟩ ⟨(qal e A).t,h1⟩ h2).1;show qal ((rc2 r2).next ((rc1 r1).next ⟨(qal e A).t,h2⟩)) _=_;rw[e5]
    rw[e2,e3,e4];exact this
 ·have hX1:=hall jc (by omega);have hX2:=hall (jc+1) (by omega);rcases inv with⟨h1,_⟩|⟨_,h1,_⟩|⟨_,_,r1,h1,r2,h2,B,c,hs,hss,inv⟩
  ·rw[hX1]at h1;cases h1
  ·rw[hX2]at h1;cases h1
  ·have hq:=(hR2 _ _ _ _ _ hss).2;have hs2:=hss;rw[hS2]at hs2;have hlenR:(A++rc1 r1::rc2 r2::B).length=m:=by simp[hA,hs2.1,hl2l];omega
   have hsim:Sim E.N c ⟨(qal ⟨e.t,h2⟩ (A++rc1 r1::rc2 r2::B)).t,h2⟩ a w∧E.ok c h2 w:=by
    have g1:=inv.hs;have g2:=inv.ok;rw[qca hq]at g1 g2;refine⟨⟨inv.defers,inv.size,fun t=>?_,g1⟩,g2⟩;have:=inv.tmps t;rw[qdf (Y:=fun _=>true) fun j r hr _=>by rw[Nat.zero_add];exact hall j (by rw[←hlenR];exact(List.getElem?_eq_some_iff.1 hr).1)]at this;rw[lookT_envAt];exact this
   have e4:qal ⟨e.t,h2⟩ (A++rc1 r1::rc2 r2::B)=qal ((rc2 r2).next ⟨((rc1 r1).next ⟨(qal e A).t,h1⟩).t,h2⟩) B:=by
    rw[envAt_app,hAt];have e5:=(next_quiet (r:=rc1 r1) ⟨none,rfl⟩ ⟨(qal e A).t,h1⟩ h2).1;show qal ((rc2 r2).next ((rc1 r1).next ⟨(qal e A).t,h2⟩)) _=_;rw[e5]
   rw[e4]at hsim;exact qcf (l.drop m) (l.take m) _ (by simp) (by rw[hl0];exact hs2.2.2.2) c a w hsim.1 hsim.2
end
attribute [go_sem] callC1 callC2
end Go.Abs

namespace Go.Abs
open Go.Proofs
section
variable {P:Program} {E:Ent}
theorem uarr_over{c:Ctx}{h:qab}{w w':World}(hs:HSim c h w)(k:E.ok c h w){i e sz g cap:Nat}{rows rows':List (List AV)}{us:List Value}(hi:h[i]?=some (.uarr e sz rows))(hv:c.sl i rows.length=some (.slice (some ⟨g,0,none⟩) rows.length cap))
  (hl:rows'.length=rows.length) (hrow:∀r,r∈rows'→r.length=sz) (hown:w'.ownsRow 0 e sz (.slice (some ⟨g,0,none⟩) rows.length cap) rows.length us)
  (hdat:∀(i' j:Nat) (r:List AV) (x:AV),rows'[i']?=some r→r[j]?=some x→∃u,us[i' * sz+j]?=some u∧DRel c.D x u) (hos:w'.os=w.os) (ht:w'.tape=w.tape) (hou:w'.output=w.output) (hsz:w.heap.size≤w'.heap.size)
  (hoth:∀b,b≠g→b<w.heap.size→w'.heap[b]?=w.heap[b]?):HSim c (h.set i (.uarr e sz rows')) w'∧E.ok c (h.set i (.uarr e sz rows')) w':=by
 obtain⟨v0,vs,h1,ho1,hmax,h2,h3,h4,h5⟩:=hs.obj i _ hi;rw[hv]at h1;cases h1;have hbo:qag c i (.uarr e sz rows)=some g:=by simp[qag,hv,Value.ownBlock]
 have hbo':qag c i (.uarr e sz rows')=some g:=by simp[qag,hl,hv,Value.ownBlock]
 have holt:∀j ob b',(h.set i (.uarr e sz rows'))[j]?=some ob→qag c j ob=some b'→∃o0,h[j]?=some o0∧qag c j o0=some b':=fun j ob b' hj hb'=>by
  rcases qad hj with⟨rfl,rfl⟩|⟨hne,h1⟩
  ·exact⟨_,hi,by rw[hbo,←hbo',hb']⟩
  ·exact⟨ob,h1,hb'⟩
 refine⟨⟨fun b j v hD=>?_,fun j hj=>hs.dom j (by simpa using hj),fun j ob hj=>?_,fun j j' ob o2 b' hj hj' hb1 hb2=>?_,fun j ob b' m v hj hb1 hD=>?_⟩,⟨k.edom,k.ext,k.blk0,by simpa using k.len,hos.trans k.os,ht.trans k.tape,hou.trans k.output,Nat.le_trans k.size hsz,fun b hb hno=>?_,fun j ob b' hj hb1=>?_,k.dold⟩⟩
 ·have hb:b≠g:=fun e2=>by
   subst e2;exact hs.sep i _ b j v hi hbo hD
  have hcell:=hs.data b j v hD;rw[World.cell?_of_block (w:=w) (hoth b hb (World.block_lt_of_cell? w ⟨b,j,none⟩ hcell))];exact hcell
 ·rcases qad hj with⟨rfl,rfl⟩|⟨hne,h6⟩
  ·exact⟨_,us,by rw[hl];exact hv,rfl,fun m hm=>hmax m (by rw[←hl];exact hm),by rw[hl];exact hown,by rw[hl];exact h3,hrow,hdat⟩
  ·refine(hs.obj j ob h6).keep (.refl c) (fun _=>rfl) fun b' hb'=>hoth b' (fun e2=>hne ?_) ((hs.obj j ob h6).lt hb');subst e2;exact hs.apart j i ob _ b' h6 hi hb' hbo
 ·obtain⟨o3,g1,g1'⟩:=holt j ob b' hj hb1;obtain⟨o4,g2,g2'⟩:=holt j' o2 b' hj' hb2;exact hs.apart j j' o3 o4 b' g1 g2 g1' g2'
 ·rcases qad hj with⟨rfl,rfl⟩|⟨hne,h6⟩
  ·rw[hbo']at hb1;have h9:(AObj.uarr e sz rows).shares m:=hs.sep j (.uarr e sz rows) b' m v hi (by rw[hbo,hb1]) hD;exact h9
  ·exact hs.sep j ob b' m v h6 hb1 hD
 ·have hne:b≠g:=fun e2=>by
   subst e2;rcases k.newobj i _ b hi hbo with⟨o0,h6,h7⟩|h6
   ·exact hno i o0 h6 h7
   ·omega
  rw[hoth b hne (Nat.lt_of_lt_of_le hb k.size)];exact k.frame b hb hno
 ·obtain⟨o3,g1,g1'⟩:=holt j ob b' hj hb1;exact k.newobj j o3 b' g1 g1'
end
end Go.Abs
