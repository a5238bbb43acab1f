/- Part 16 of a proof: AbsZe, AbsZf -/
import Derived.Test.YtilhejdbiionhaaGreatDoorR13
set_option linter.all false

namespace Go.Abs
section
variable {P:Program} {E:Ent}
theorem draw_effP{l:List Oper}{e0:Env}{R:List DR}(d:DRegW l R)(hq:∀r,r∈R→∃rd,r.k=.quiet rd){X:Nat→Bool}(hcl:qem l X){c:Ctx}{a:Act}{w:World}(inv:DInv E e0 R X c a w){i:Nat}{o:Oper}(hi:l[i]?=some o)(hXi:X i=false)
  (hdep:∀e,e∈o.after→Region.binds .any e=true→X e.on=true) (hg:gB ((l.take i).map (·.dst)) (qal e0 (R.take i)) o.guard=some true) (hd:qee E.N o.dst) {r:AV} (hr:R[i]?=some ⟨o.dst,optV o.guard true r,.quiet none⟩) {h':qab} {ok:Prop} {Qa:AExit→Env→Prop}
  (hc:opEff P (qc6 (qal e0 (R.take i)) o) o.op (fun r1 h1=>ok∧r1=r∧h1=h') fun v h1=>Qa (.panic v) ⟨[],h1⟩) :
  wpOp P l.toArray (conc E Qa) i (fun a' w'=>ok∧∃c',DInv E ⟨e0.t,h'⟩ R (fun j=>if j=i then true else X j) c' a' w') a w:=by
 have hslots:=draw_slots d hcl inv.tmps hi hXi hdep;have hs:HSim c e0.h w:=by have:=inv.hs;rwa [qca hq]at this
 have hok:E.ok c e0.h w:=by have:=inv.ok;rwa [qca hq]at this
 have hhe:(qal e0 (R.take i)).h=e0.h:=by rw[envAt_h,quiet_fresh (fun r hr=>hq r (List.mem_of_mem_take hr)),List.append_nil]
 have hget:(l.toArray)[i]?=some o:=by simpa using hi
 have hsim:Sim E.N c (qc6 (qal e0 (R.take i)) o) a w:=⟨inv.defers,inv.size,fun t=>by
  simp only[qc6,lookT_map];split
  ·rename_i ht;exact hslots t (List.mem_append_left _ ht)
  ·exact .top _,by simp only[qc6,hhe];exact hs⟩
 have hwant:Region.wanted o (yielded l.toArray a.tmps)=true:=wanted_rel (l:=l) (by simp) (i:=i) (fun j want hg=>d.ok.guard i o j want hi hg) (fun t ht=>hslots t (List.mem_append_right _ ht)) hg;unfold wpOp;simp only[hget];rw[if_pos hwant];refine .inl (eff_ok (E:=⟨E.N,c,e0.h,w⟩) hsim (by simp only[qc6,hhe];exact Ent.ok.refl _ hs) hc (fun v h1 c' w' u hR hle hs' hk' hru=>?_) (fun v h1 c' w' u hR hle hs' hk' hru=>?_))
 ·obtain⟨hok1,rfl,rfl⟩:=hR;have hru:Rel c' (optV o.guard true v) u:=by
   unfold optV;split
   ·exact hru
   ·exact .opt _ _ _ (fun _=>hru) (fun h=>by cases h)
  refine⟨hok1,c',by cases o.dst<;>exact inv.defers,by cases o.dst<;>simp[Act.put,inv.size],fun t=>?_,by rw[qca hq];exact hs',by rw[qca hq];exact hok.trans hk',fun j rj xs hj hjk _=>?_,fun rj hrj i' off cs hjk=>?_⟩
  ·have h1:=slotX_add (X:=X) (t:=t) (k:=0) (x:=qbb e0.t t) hr (fun j r' hr' hd hn=>by
    obtain⟨o',ho',hd',_⟩:=d.dst hr';exact d.ok.uniq i o j o' hi ho' hn (by rw[←hd',hd]))
   simp only[Nat.zero_add]at h1;show Rel c' (slotX _ t 0 R (qbb e0.t t)) _;rw[h1];cases hdst:o.dst with
   |none =>
    rw[if_neg (by simp)];exact(inv.tmps t).mono hle
   |some dd =>
    have hlt:dd<a.tmps.size:=by rw[inv.size];rw[hdst]at hd;exact hd
    by_cases hdt:dd=t
    ·subst hdt;rw[if_pos rfl];simpa[Act.put,hlt]using hru
    ·rw[if_neg (by simpa using hdt)];have:=(inv.tmps t).mono hle;simpa[Act.put,Array.getD_eq_getD_getElem?,Array.getElem?_setIfInBounds_ne hdt]using this
  ·obtain⟨rd,hk⟩:=hq rj (List.mem_of_getElem? hj);rw[hk]at hjk;cases hjk
  ·obtain⟨j,h1,_⟩:=qea hrj;obtain⟨rd,hk⟩:=hq rj (List.mem_of_getElem? h1);rw[hk]at hjk;cases hjk
 ·exact⟨.panic v,⟨[],h1⟩,c',hR,hru,⟨inv.defers,inv.size,fun _=>.top _,hs'⟩,hok.trans hk'⟩
structure DRegK(P:Program)(E:Ent)(l:List Oper)(e0:Env)(R:List DR)(jc:Nat)(h2:qab)(ok:Prop)(Qa:AExit→Env→Prop):Prop where
 w:DRegW l R
 lt:jc<l.length
 quiet:∀r,r∈R→∃rd,r.k=.quiet rd
 before:∀(k:Nat) (o:Oper),l[k]?=some o→k≠jc→ordB (Region.before l.toArray) jc k=false→stepD P E.N ((l.take k).map (·.dst)) o (qal ⟨e0.t,e0.h⟩ (R.take k)) (fun r=>R[k]?=some r)
 after:ok→∀(k:Nat) (o:Oper),l[k]?=some o→k≠jc→ordB (Region.before l.toArray) k jc=false→stepD P E.N ((l.take k).map (·.dst)) o (qal ⟨e0.t,h2⟩ (R.take k)) (fun r=>R[k]?=some r)
 eff:∀o,l[jc]?=some o→∃r:AV,gB ((l.take jc).map (·.dst)) (qal ⟨e0.t,e0.h⟩ (R.take jc)) o.guard=some true∧qee E.N o.dst∧R[jc]?=some ⟨o.dst,optV o.guard true r,.quiet none⟩∧opEff P (qc6 (qal ⟨e0.t,e0.h⟩ (R.take jc)) o) o.op (fun r1 h1=>ok∧r1=r∧h1=h2) fun v h1=>Qa (.panic v) ⟨[],h1⟩
theorem dinv_endK{l:List Oper}{e0:Env}{R:List DR}{jc:Nat}{h2:qab}{ok:Prop}{Qa:AExit→Env→Prop}(d:DRegK P E l e0 R jc h2 ok Qa){X:Nat→Bool}(hj:X jc=true)(hall:∀j,j<l.length→X j=true){c:Ctx}{a:Act}{w:World}(inv:DInv E ⟨e0.t,bif X jc then h2 else e0.h⟩ R X c a w) :
  Sim E.N c ⟨(qal e0 R).t,h2⟩ a w∧E.ok c h2 w:=by
 have h1:∀j r,R[j]?=some r→X (0+j)=true:=fun j r hr=>by rw[Nat.zero_add];exact hall j (by rw[←d.w.len];exact(List.getElem?_eq_some_iff.1 hr).1)
 have hs:=inv.hs;have hk:=inv.ok;rw[qca d.quiet,hj]at hs hk;refine⟨⟨inv.defers,inv.size,fun t=>?_,hs⟩,hk⟩;have:=inv.tmps t;rw[qdf (Y:=fun _=>true) fun j r hr _=>h1 j r hr]at this;rw[lookT_envAt];exact this
theorem draw_stepK{l:List Oper}{e0:Env}{R:List DR}{jc:Nat}{h2:qab}{ok:Prop}{Qa:AExit→Env→Prop}(d:DRegK P E l e0 R jc h2 ok Qa){X:Nat→Bool}(hX1:X jc=true→ok)(hcl:qem l X){c:Ctx}{a:Act}{w:World}(inv:DInv E ⟨e0.t,bif X jc then h2 else e0.h⟩ R X c a w){i:Nat}{o:Oper}(hi:l[i]?=some o)(hXi:X i=false)
  (hdep:∀e,e∈o.after→Region.binds .any e=true→X e.on=true) :
  wpOp P l.toArray (conc E Qa) i (fun a' w'=>((if jc=i then true else X jc)=true→ok)∧∃c',DInv E ⟨e0.t,bif (if jc=i then true else X jc)then h2 else e0.h⟩ R (fun j=>if j=i then true else X j) c' a' w') a w:=by
 by_cases hij:i=jc
 ·subst hij;obtain⟨r,g2,g3,g6,g7⟩:=d.eff o hi;rw[hXi]at inv;rw[if_pos rfl];refine wpOp_mono ?_ (draw_effP (e0:=⟨e0.t,e0.h⟩) d.w d.quiet hcl inv hi hXi hdep g2 g3 g6 g7);rintro a' w' ⟨h1,h2⟩;exact⟨fun _=>h1,h2⟩
 ·rw[if_neg (Ne.symm hij)];cases hX:X jc with
  |true =>
   rw[hX]at inv;have hno:ordB (Region.before l.toArray) i jc=false:=by
    cases hb:ordB (Region.before l.toArray) i jc with
    |false=>rfl
    |true =>
     have hjo:l[jc]?=some (l[jc]'(d.lt)):=by simp[d.lt]
     have:=ord_in hcl jc i _ hjo (hcl jc _ hX hjo) hb;rw[hXi]at this;cases this
   have hlen:E.h.length≤h2.length:=by have:=inv.ok.len;rwa [qca d.quiet]at this
   refine wpOp_mono ?_ (draw_step (Q:=conc E Qa) (e0:=⟨e0.t,h2⟩) d.w hlen hcl inv hi hXi hdep (d.after (hX1 hX) i o hi hij hno));exact fun a' w' h=>⟨fun _=>hX1 hX,h⟩
  |false =>
   rw[hX]at inv;have hno:ordB (Region.before l.toArray) jc i=false:=by
    cases hb:ordB (Region.before l.toArray) jc i with
    |false=>rfl
    |true=>have:=ord_in hcl i jc o hi hdep hb;rw[hX]at this;cases this
   have hlen:E.h.length≤e0.h.length:=by have:=inv.ok.len;rwa [qca d.quiet]at this
   refine wpOp_mono ?_ (draw_step (Q:=conc E Qa) (e0:=⟨e0.t,e0.h⟩) d.w hlen hcl inv hi hXi hdep (d.before i o hi hij hno));exact fun a' w' h=>⟨fun h'=>(by cases h'),h⟩
theorem any_okK{l:List Oper}{m jc:Nat}{h2:qab}(hm:m≤l.length)(t:TailOk m l){e0:Env}{R:List DR}{ok:Prop}{Qa:AExit→Env→Prop}(d:DRegK P E (l.take m) e0 R jc h2 ok Qa)
  (hQ:ok→∀c a w,Sim E.N c ⟨(qal e0 R).t,h2⟩ a w→E.ok c h2 w→wpList P l.toArray (conc E Qa) (l.drop m) a w) :
  ∀(fuel:Nat) (L:Array Bool),L.size=l.length→(∀j,m≤j→L.getD j false=false)→L.toList.count false≤fuel→qem l (fun j=>L.getD j false)→∀(c:Ctx) (a:Act) (w:World),(L.getD jc false=true→ok)→DInv E ⟨e0.t,bif L.getD jc false then h2 else e0.h⟩ R (fun j=>L.getD j false) c a w→wpAny P .any l.toArray (conc E Qa) fuel L a w:=by
 intro fuel;have hlen:(l.take m).length=m:=by simp;omega
 have hiff:∀(L:Array Bool),(∀j,m≤j→L.getD j false=false)→(∀j,j<m→L.getD j false=true)→∀j,j<l.length→(L.getD j false=true↔j<m):=fun L hge hall j _=>by
  refine⟨fun h=>?_,hall j⟩;rcases Nat.lt_or_ge j m with h1|h1
  ·exact h1
  ·rw[hge j h1]at h;cases h
 have hcount:∀(k:Nat) (L:Array Bool),L.size=l.length→(∀j,k≤j→L.getD j false=false)→k≤l.length→l.length - k≤L.toList.count false:=fun k L hL hk hkl=>by
  have h1:(L.toList.drop k).count false=l.length - k:=by
   have h2:(L.toList.drop k).count false=(L.toList.drop k).length:=List.count_eq_length.2 fun b hb=>by
    obtain⟨j,hj⟩:=List.getElem?_of_mem hb;rw[List.getElem?_drop]at hj;have:=hk (k+j) (by omega);simp only[Array.getD_eq_getD_getElem?]at this;rw[←Array.getElem?_toList,hj]at this;simpa using this.symm
   rw[h2];simp[hL]
  have h3:(L.toList.drop k).Sublist L.toList:=List.drop_sublist _ _;have:=h3.count_le false;omega
 induction fuel with
 |zero =>
  intro L hL hge hc hcl c a w hok inv;by_cases hall:∀j,j<m→L.getD j false=true
  ·have hj1:=hall jc (by have:=d.lt;omega);obtain⟨s,k⟩:=dinv_endK d (by simpa using hj1) (fun j hj=>hall j (by omega)) inv;have:=hcount m L hL hge hm;exact tail_any t 0 m L (Nat.le_refl _) hm hL (hiff L hge hall) (by omega) a w (hQ (hok hj1) c a w s k)
  ·obtain⟨i,h1,h2,_⟩:=least_out hall;have:=count_ne (L:=L) (i:=i) (by omega) h2;omega
 |succ fuel ih =>
  intro L hL hge hc hcl c a w hok inv;by_cases hall:∀j,j<m→L.getD j false=true
  ·have hj1:=hall jc (by have:=d.lt;omega);obtain⟨s,k⟩:=dinv_endK d (by simpa using hj1) (fun j hj=>hall j (by omega)) inv;have:=hcount m L hL hge hm;exact tail_any t (fuel+1) m L (Nat.le_refl _) hm hL (hiff L hge hall) (by omega) a w (hQ (hok hj1) c a w s k)
  ·obtain⟨i0,g1,g2,g3⟩:=least_out hall;refine⟨fun hr=>?_,fun i hi=>?_⟩
   ·have:=ready_min t.after hL (i:=i0) (by omega) g2 g3;rw[hr]at this;cases this
   ·obtain⟨o,h1,h2,h3⟩:=ready_mem hi;have hlt:i<L.size:=by rw[hL];exact(List.getElem?_eq_some_iff.1 h1).1
    have hLi:L.getD i false=false:=by simpa[Array.getD,hlt]using h2
    have him:i<m:=by
     rcases Nat.lt_or_ge i m with h4|h4
     ·exact h4
     ·have:=ord_in hcl i i0 o h1 h3 (t.ord i i0 h4 (by omega) (by omega));rw[show L.getD i0 false=false from g2]at this;cases this
    have h1':(l.take m)[i]?=some o:=by rw[List.getElem?_take,if_pos him];exact h1
    have hcl':qem (l.take m) fun j=>L.getD j false:=fun j o' hj ho' e he hb=>by
     have hjm:j<m:=by have:=(List.getElem?_eq_some_iff.1 ho').1;omega
     rw[List.getElem?_take,if_pos hjm]at ho';exact hcl j o' hj ho' e he hb
    refine wpOp_take him (fun o' j want ho' hg=>?_) (wpOp_mono ?_ (draw_stepK d (X:=fun j=>L.getD j false) hok hcl' inv h1' hLi h3))
    ·rw[h1]at ho';cases ho';have:=d.w.ok.guard i o j want h1' hg;omega
    ·rintro a' w' ⟨hok',c',inv'⟩;have hjf:(if jc=i then true else L.getD jc false)=(L.setIfInBounds i true).getD jc false:=congrFun (set_fun hlt) jc;rw[set_fun hlt,hjf]at inv';rw[hjf]at hok';refine ih _ (by simpa using hL) (fun j hj=>?_) ?_ (closed_set hlt h1 h3 hcl) c' a' w' hok' inv'
     ·have hf:=congrFun (set_fun hlt) j;rw[←hf,if_neg (by omega)];exact hge j hj
     ·have:=count_set_lt hlt hLi;omega
theorem awp_drawK0{id:Nat}(m jc:Nat){l:List Oper}{Q:AExit→Env→Prop}{e:Env}{R:List DR}{h2:qab}{ok:Prop}(hm:P.follows .mixedOrders=true)(hml:m≤l.length)(hT:tailB m l=true)(d:DRegK P E (l.take m) e R jc h2 ok Q)
  (hQ:ok→opsG P E.N Q ((l.take m).map (·.dst)) (l.drop m) ⟨(qal e R).t,h2⟩):AWp P E (.region id l.toArray true) Q e:=fun c a w s k=>by
 refine wp_region_any hm ?_;have hs':HSim c e.h { w with drawn:=w.drawn+1 }:=s.hs.ext (fun _ _=>rfl) (.refl c) (fun _ _=>rfl) (fun _ _ _ h=>.inl h) s.hs.dom;have hk':E.ok c e.h { w with drawn:=w.drawn+1 }:=k.ext' s.hs (fun _ _=>rfl) (.refl c) (fun _=>rfl) rfl rfl rfl (Nat.le_refl _) (fun _ _ _ h=>.inl h);have hff:(fun _=>false)=fun j=>(Array.replicate l.toArray.size false).getD j false:=by
  funext j;simp[Array.getD_eq_getD_getElem?,Array.getElem?_replicate];split<;>rfl
 have h0:=congrFun hff jc;refine any_okK hml (tailOk_of hT) d (fun hok c' a' w' s' k'=>?_) _ _ (by simp) (fun j _=>(congrFun hff j).symm) ?_ ?_ c a _ ?_ ?_
 ·exact qcf (l.drop m) (l.take m) _ (by simp) (hQ hok) c' a' w' s' k'
 ·simp
 ·intro j o hj;rw[←hff]at hj;cases hj
 ·intro h1;rw[←h0]at h1;cases h1
 ·rw[←h0,←hff];exact dinv_start (e0:=⟨e.t,e.h⟩) ⟨s.defers,s.size,s.tmps,hs'⟩ hk'
def DR.isQ(r:DR):Bool:=match r.k with
 | .quiet _=>true
 |_=>false
theorem allQ_iff{R:List DR}:R.all DR.isQ=true↔∀r,r∈R→∃rd,r.k=.quiet rd:=by
 rw[List.all_eq_true];refine⟨fun h r hr=>?_,fun h r hr=>?_⟩
 ·have:=h r hr;unfold DR.isQ at this;split at this
  ·rename_i rd h1;exact⟨rd,h1⟩
  ·cases this
 ·obtain⟨rd,h1⟩:=h r hr;simp[DR.isQ,h1]
theorem next_quiet{r:DR}(h:∃rd,r.k=.quiet rd)(e:Env)(h':qab):r.next ⟨e.t,h'⟩=⟨(r.next e).t,h'⟩∧(r.next e).h=e.h:=by
 obtain⟨rd,hk⟩:=h;unfold DR.next
 simp only[hk];cases r.dst<;>exact⟨rfl,rfl⟩
theorem qb8:∀{R:List DR},(∀r,r∈R→∃rd,r.k=.quiet rd)→∀(e:Env) (h':qab),qal ⟨e.t,h'⟩ R=⟨(qal e R).t,h'⟩∧(qal e R).h=e.h
 | [],_,_,_=>⟨rfl,rfl⟩
 |r::R,h,e,h'=>by
  have h1:=next_quiet (h r (by simp)) e h';have h2:=qb8 (R:=R) (fun r' hr=>h r' (List.mem_cons_of_mem _ hr)) (r.next e) h';simp only[qal];rw[h1.1];exact⟨h2.1,by rw[h2.2,h1.2]⟩
def TKCall(P:Program)(fid:FuncId)(args:List AV)(e:Env)(KA:AV→qab→Prop)(KP:AV→qab→Prop)(_:Tag KA)(_:Tag KP):Prop :=
 ∃(ok:Prop) (r:AV) (h2:qab),ACalls P fid args e.h (fun x h'=>match x with
  | .ret v=>ok∧v=r∧h'=h2
  | .panic v=>KP v h')∧(ok→KA r h2)
theorem qd2{P:Program}{fid:FuncId}{args:List AV}{e:Env}{KA:AV→qab→Prop}{KP:AV→qab→Prop}{t1:Tag KA}{t2:Tag KP}{r:AV}{h2:qab}(h:ACalls P fid args e.h fun x h'=>x=.ret r∧h'=h2)(k:KA r h2):TKCall P fid args e KA KP t1 t2 :=
 ⟨True,r,h2,h.mono (by rintro _ _ ⟨rfl,rfl⟩;exact⟨trivial,rfl,rfl⟩),fun _=>k⟩
theorem tkcall_pan{P:Program}{fid:FuncId}{args:List AV}{e:Env}{KA:AV→qab→Prop}{KP:AV→qab→Prop}{t1:Tag KA}{t2:Tag KP}{v:AV}{h2:qab}(h:ACalls P fid args e.h fun x h'=>x=.panic v∧h'=h2)(k:KP v h2):TKCall P fid args e KA KP t1 t2 :=
 ⟨False,.top,h2,h.mono (by rintro _ _ ⟨rfl,rfl⟩;exact k),fun h=>h.elim⟩
def TPend(f:qab→Prop)(_:Tag f)(h:qab):Prop:=f h
def opsK1(P:Program)(N:Nat)(u:List Nat)(KC:List (Option Tmp)→List Oper→Env→List DR→(qab→Prop)→Prop):Nat→Nat→List (Option Tmp)→List Oper→Env→List DR→(qab→Prop)→Prop
 | 0,_,ds,l,e,acc,pd=>KC ds l e acc pd
 |_+1,_,_,[],_,_,_=>False
 |n+1,k,ds,o::l,e,acc,pd=>stepDG P N ds o e acc fun e acc r=>opsK1 P N u KC n (k+1) (ds++[o.dst]) l (r.next e) (acc++[r])
   (if k∈u then TPend (fun h2=>pd h2∧stepDG P N ds o ⟨e.t,h2⟩ acc fun _ _ r'=>r'=r) ⟨⟩else pd)
def callK(P:Program)(N:Nat)(Q:AExit→Env→Prop)(tl:List Oper)(ds:List (Option Tmp))(l:List Oper)(e:Env)(acc:List DR)(pd:qab→Prop):Prop :=
 match l with
 | []=>False
 |o::l =>
  match o.op with
  | .call { callee:=.value f,args,.. } =>
   gB ds e o.guard=some true∧qee N o.dst∧acc.all DR.isQ=true∧qaw e true (f::args.toList)∧match e.getS f with
   | .fn (.func fid) first caps=>TKCall P fid (qbi e.h (first++args.toList.map e.getS++caps)) e
     (fun r h2=>pd h2∧opsDG P N (ds++[o.dst]) l ((⟨o.dst,optV o.guard true r,.quiet none⟩:DR).next ⟨e.t,h2⟩) (acc++[⟨o.dst,optV o.guard true r,.quiet none⟩]) fun R e1=>R.all DR.isQ=true∧opsG P N Q (ds++o.dst::l.map (·.dst)) tl ⟨e1.t,h2⟩)
     (fun v h2=>Q (.panic v) ⟨[],h2⟩) ⟨⟩ ⟨⟩
   |_=>False
  |_=>False
def checkK(m jc:Nat)(u:List Nat)(l:List Oper):Bool :=
 let b:=Region.before (l.take m).toArray
 decide (m≤l.length)&&decide (jc<m)&&drawB (l.take m)&&tailB m l &&
 ((List.range m).all fun k=>k == jc||(decide (k<jc)&&(ordB b k jc||u.contains k))||(decide (jc<k)&&ordB b jc k))
theorem opsK1_wit{P:Program}{N:Nat}{u:List Nat}{KC:List (Option Tmp)→List Oper→Env→List DR→(qab→Prop)→Prop}:∀{n k:Nat} {ds:List (Option Tmp)} {l:List Oper} {e:Env} {acc:List DR} {pd:qab→Prop},opsK1 P N u KC n k ds l e acc pd →
  ∃(R:List DR) (pd':qab→Prop),R.length=n∧n≤l.length∧(∀(j:Nat) (o:Oper),j<n→l[j]?=some o→stepD P N (ds++(l.take j).map (·.dst)) o (qal e (R.take j)) (fun r=>R[j]?=some r)) ∧
   KC (ds++(l.take n).map (·.dst)) (l.drop n) (qal e R) (acc++R) pd' ∧
   ∀h2,pd' h2→pd h2∧∀(j:Nat) (o:Oper),j<n→k+j∈u→l[j]?=some o→stepD P N (ds++(l.take j).map (·.dst)) o ⟨(qal e (R.take j)).t,h2⟩ (fun r=>R[j]?=some r)
 | 0,k,ds,l,e,acc,pd,h=>⟨[],pd,rfl,Nat.zero_le _,fun j o hj=>by omega,by simpa[qal,opsK1]using h,fun h2 hp=>⟨hp,fun j o hj=>by omega⟩⟩
 |n+1,k,ds,[],e,acc,pd,h=>h.elim
 |n+1,k,ds,o::l,e,acc,pd,h=>by
  obtain⟨r,h1,h2⟩:=stepD_wit (stepDG_D (K:=fun e acc r=>opsK1 P N u KC n (k+1) (ds++[o.dst]) l (r.next e) (acc++[r]) (if k∈u then TPend (fun h2=>pd h2∧stepDG P N ds o ⟨e.t,h2⟩ acc fun _ _ r'=>r'=r) ⟨⟩else pd)) h);obtain⟨R,pd',hl,hn,hs,hK,hp⟩:=opsK1_wit h2;refine⟨r::R,pd',by simp[hl],by simpa using hn,fun j o' hj ho=>?_,by simpa[qal]using hK,fun h2 hq=>?_⟩
  ·cases j with
   |zero =>
    simp at ho;subst ho;simpa[qal,eq_comm]using h1
   |succ j =>
    have:=hs j o' (by omega) (by simpa using ho);simpa[qal,List.append_assoc]using this
  ·obtain⟨h3,h4⟩:=hp h2 hq;refine⟨?_,fun j o' hj hu ho=>?_⟩
   ·split at h3
    ·exact h3.1
    ·exact h3
   ·cases j with
    |zero =>
     simp at ho;subst ho;rw[Nat.add_zero]at hu;rw[if_pos hu]at h3;have:=stepDG_D h3.2;simpa[qal,eq_comm]using this
    |succ j =>
     have:=h4 j o' (by omega) (by rwa [show k+1+j=k+(j+1)by omega]) (by simpa using ho);simpa[qal,List.append_assoc]using this
theorem get_narrow{e:Env}{o:Oper}{x:Operand}(h:x∈o.op.operands.toList):(qc6 e o).get x=e.get x:=by
 cases x with
 |tmp t =>
  simp only[Env.get,qc6,lookT_map];rw[if_pos (by simp only[tmpsOf,List.mem_filterMap];exact⟨.tmp t,h,rfl⟩)]
 |_=>rfl
theorem haveAll_narrow{e:Env}{o:Oper}:∀{l:List Operand},(∀x,x∈l→x∈o.op.operands.toList)→qaw e true l→qaw (qc6 e o) true l
 | [],_,_=>trivial
 |x::l,h,k=>⟨by rw[get_narrow (h x (by simp))];exact k.1,haveAll_narrow (fun y hy=>h y (by simp[hy])) k.2⟩
theorem qek{id:Nat}(m jc:Nat)(u:List Nat){l:List Oper}{Q:AExit→Env→Prop}{e:Env}(hm:P.follows .mixedOrders=true)(hB:checkK m jc u l=true)
  (h:opsK1 P E.N u (callK P E.N Q (l.drop m)) jc 0 [] (l.take m) e [] fun _=>True):AWp P E (.region id l.toArray true) Q e:=by
 simp only[checkK,Bool.and_eq_true,decide_eq_true_eq]at hB;obtain⟨⟨⟨⟨hml,hjm⟩,hdB⟩,hT⟩,hO⟩:=hB;have hok:=drawOk_of hdB;obtain⟨R1,pd,hR1,hn,hs1,hK,hp⟩:=opsK1_wit h;simp only[List.nil_append]at hs1 hK hp;have hlen:(l.take m).length=m:=by simp;omega
 have hd:(l.take m).drop jc=(l.take m)[jc]'(by omega)::(l.take m).drop (jc+1):=List.drop_eq_getElem_cons (by omega);generalize hoc:(l.take m)[jc]'(by omega)=oc at hd;have hoc':(l.take m)[jc]?=some oc:=by rw[←hoc];exact List.getElem?_eq_getElem _
 rw[hd]at hK;simp only[callK]at hK;split at hK
 rotate_left
 ·exact hK.elim
 rename_i f args ats hop;obtain⟨hg,hdst,hQ1,hall,hK⟩:=hK;have hq1:=allQ_iff.1 hQ1;split at hK
 rotate_left
 ·exact hK.elim
 rename_i fid first caps hf
 obtain⟨ok,r,h2,hc,hKA⟩:=hK;have hord:∀k,k<m→k≠jc→(k<jc∧(ordB (Region.before (l.take m).toArray) k jc=true∨k∈u))∨(jc<k∧ordB (Region.before (l.take m).toArray) jc k=true):=fun k hk hne=>by
  have:=List.all_eq_true.1 hO k (List.mem_range.2 hk);simp only[Bool.or_eq_true,beq_iff_eq,Bool.and_eq_true,decide_eq_true_eq,List.contains_iff_mem]at this;rcases this with(h1|h1)|h1
  ·exact(hne h1).elim
  ·exact .inl h1
  ·exact .inr h1
 have hops:oc.op.operands.toList=f::args.toList:=by
  rw[hop];simp[Op.operands,Call.operands]
 -- the results behind the call
 have hR2:∃R2:List DR,R2.length=((l.take m).drop (jc+1)).length∧(∀r',r'∈R2→∃rd,r'.k=.quiet rd)∧(∀(j:Nat) (r':DR),R2[j]?=some r'→∃o,((l.take m).drop (jc+1))[j]?=some o∧r'.dst=o.dst) ∧
   (ok→pd h2∧(∀(j:Nat) (o:Oper),((l.take m).drop (jc+1))[j]?=some o→stepD P E.N (((l.take m).take jc).map (·.dst)++[oc.dst]++(((l.take m).drop (jc+1)).take j).map (·.dst)) o (qal ((⟨oc.dst,optV oc.guard true r,.quiet none⟩:DR).next ⟨(qal e R1).t,h2⟩) (R2.take j)) (fun r'=>R2[j]?=some r')) ∧
    opsG P E.N Q ((l.take m).map (·.dst)) (l.drop m) ⟨(qal ((⟨oc.dst,optV oc.guard true r,.quiet none⟩:DR).next ⟨(qal e R1).t,h2⟩) R2).t,h2⟩):=by
  by_cases hk:ok
  ·obtain⟨h3,h4⟩:=hKA hk;obtain⟨R2,g1,g2,g3⟩:=opsD_wit (opsDG_D h4);obtain⟨g4,g5⟩:=g3;rw[List.all_append,List.all_append,Bool.and_eq_true,Bool.and_eq_true]at g4;refine⟨R2,g1,allQ_iff.1 g4.2,fun j r' hj=>?_,fun _=>⟨h3,g2,?_⟩⟩
   ·have hlt:j<((l.take m).drop (jc+1)).length:=by rw[←g1];exact(List.getElem?_eq_some_iff.1 hj).1
    obtain⟨_,r'',k1,k2,_⟩:=stepD_dst (g2 j _ (List.getElem?_eq_getElem hlt));rw[hj]at k2;cases k2;exact⟨_,List.getElem?_eq_getElem hlt,k1⟩
   ·have e1:((l.take m).take jc).map (·.dst)++oc.dst::((l.take m).drop (jc+1)).map (·.dst)=(l.take m).map (·.dst):=by
     have h5:=List.take_append_drop jc (l.take m);rw[hd]at h5
     conv=>rhs;rw[←h5]
     rw[List.map_append,List.map_cons]
    rw[e1]at g5;exact g5
  ·refine⟨((l.take m).drop (jc+1)).map fun o=>⟨o.dst,.top,.quiet none⟩,by simp,fun r' hr=>?_,fun j r' hj=>?_,fun h=>(hk h).elim⟩
   ·rw[List.mem_map]at hr;obtain⟨o,_,rfl⟩:=hr;exact⟨none,rfl⟩
   ·rw[List.getElem?_map,Option.map_eq_some_iff]at hj;obtain⟨o,h1,rfl⟩:=hj;exact⟨o,h1,rfl⟩
 obtain⟨R2,hl2,hq2,hd2,hall2⟩:=hR2;generalize hrc:(⟨oc.dst,optV oc.guard true r,.quiet none⟩:DR)=rc at hall2;have hget1:∀k,k<jc→(R1++rc::R2)[k]?=R1[k]?:=fun k hk=>List.getElem?_append_left (by omega);have hgetc:(R1++rc::R2)[jc]?=some rc:=by rw[List.getElem?_append_right (by omega),hR1,Nat.sub_self];rfl
 have hget2:∀k,jc<k→(R1++rc::R2)[k]?=R2[k - (jc+1)]?:=fun k hk=>by
  rw[List.getElem?_append_right (by omega),hR1,show k - jc=(k - (jc+1))+1 by omega,List.getElem?_cons_succ]
 have htake1:∀k,k≤jc→(R1++rc::R2).take k=R1.take k:=fun k hk=>by rw[List.take_append_of_le_length (by omega)]
 have htake2:∀k,jc<k→(R1++rc::R2).take k=R1++rc::R2.take (k - (jc+1)):=fun k hk=>by
  rw[List.take_append,List.take_of_length_le (by omega),hR1,show k - jc=(k - (jc+1))+1 by omega,List.take_succ_cons]
 have hqR:∀r',r'∈R1++rc::R2→∃rd,r'.k=.quiet rd:=fun r' hr=>by
  rcases List.mem_append.1 hr with hr|hr
  ·exact hq1 r' (by simpa using hr)
  ·rcases List.mem_cons.1 hr with rfl|hr
   ·rw[←hrc];exact⟨none,rfl⟩
   ·exact hq2 r' hr
 have hdrop:∀k,jc<k→((l.take m).drop (jc+1))[k - (jc+1)]?=(l.take m)[k]?:=fun k hk=>by
  rw[List.getElem?_drop,show jc+1+(k - (jc+1))=k by omega]
 have dW:DRegW (l.take m) (R1++rc::R2):=by
  refine⟨hok,by simp[hR1,hl2];omega,fun {k r'} hr=>?_,fun k s r' r'' i off cs _ _ hs hk=>?_⟩
  ·have hlt:k<m:=by have:=(List.getElem?_eq_some_iff.1 hr).1;simp[hR1,hl2]at this;omega
   obtain⟨rd,hk⟩:=hqR r' (List.mem_of_getElem? hr);have hno:(∃i off cs,r'.k=.store i off cs)→∀o:Oper,isStore o.op=true:=by
    rintro⟨i,off,cs,h⟩;rw[hk]at h;cases h
   rcases Nat.lt_trichotomy k jc with h1|h1|h1
   ·rw[hget1 k h1]at hr;have hlt':k<(l.take m).length:=by omega
    obtain⟨_,r'',k1,k2,_⟩:=stepD_dst (hs1 k _ h1 (List.getElem?_eq_getElem hlt'));rw[hr]at k2;cases k2;exact⟨_,List.getElem?_eq_getElem hlt',k1,fun h=>hno h _⟩
   ·subst h1;rw[hgetc]at hr;cases hr;exact⟨oc,hoc',by rw[←hrc],fun h=>hno h _⟩
   ·rw[hget2 k h1]at hr;obtain⟨o,k1,k2⟩:=hd2 _ _ hr;rw[hdrop k h1]at k1;exact⟨o,k1,k2,fun h=>hno h _⟩
  ·obtain⟨rd,h1⟩:=hqR r'' (List.mem_of_getElem? hs);rw[h1]at hk;cases hk
 have d:DRegK P E (l.take m) e (R1++rc::R2) jc h2 ok Q:=by
  refine⟨dW,by omega,hqR,fun k o ho hne hno=>?_,fun hk k o ho hne hno=>?_,fun o ho=>?_⟩
  ·have hlt:k<m:=by have:=(List.getElem?_eq_some_iff.1 ho).1;omega
   rcases hord k hlt hne with⟨h1,_⟩|⟨_,h1⟩
   ·rw[htake1 k (by omega),hget1 k h1];exact hs1 k o h1 ho
   ·rw[h1]at hno;cases hno
  ·have hlt:k<m:=by have:=(List.getElem?_eq_some_iff.1 ho).1;omega
   obtain⟨g1,g2,_⟩:=hall2 hk;rcases hord k hlt hne with⟨h1,h3|h3⟩|⟨h1,_⟩
   ·rw[h3]at hno;cases hno
   ·have:=(hp h2 g1).2 k o h1 (by rwa [Nat.zero_add]) ho;rw[htake1 k (by omega),hget1 k h1,(qb8 (R:=R1.take k) (fun r' hr=>hq1 r' (by simpa using List.mem_of_mem_take hr)) e h2).1];exact this
   ·have:=g2 (k - (jc+1)) o (by rw[hdrop k h1];exact ho);have e1:((l.take m).take jc).map (·.dst)++[oc.dst]++(((l.take m).drop (jc+1)).take (k - (jc+1))).map (·.dst)=((l.take m).take k).map (·.dst):=by
     rw[show(l.take m).take k=(l.take m).take (jc+(1+(k - (jc+1))))by congr 1;omega,List.take_add,hd,List.map_append,Nat.add_comm 1,List.take_succ_cons];simp
    rw[e1]at this;rw[htake2 k h1,hget2 k h1];have e2:qal ⟨e.t,h2⟩ (R1++rc::R2.take (k - (jc+1)))=qal (rc.next ⟨(qal e R1).t,h2⟩) (R2.take (k - (jc+1))):=by
     have:∀(A B:List DR) (x:Env),qal x (A++B)=qal (qal x A) B:=by
      intro A
      induction A with
      |nil=>intro B x;rfl
      |cons a A ih=>intro B x;exact ih B _
     rw[this,(qb8 (R:=R1) (fun r' hr=>hq1 r' (by simpa using hr)) e h2).1];rfl
    rw[e2];exact this
  ·rw[hoc']at ho;cases ho;refine⟨r,by rw[htake1 jc (Nat.le_refl _),List.take_of_length_le (l:=R1) (by omega)];exact hg,hdst,by rw[hgetc,←hrc],?_⟩;rw[htake1 jc (Nat.le_refl _),List.take_of_length_le (by omega)];show opEff P (qc6 (qal e R1) oc) oc.op _ _;have hh:=(qb8 (R:=R1) (fun r' hr=>hq1 r' (by simpa using hr)) e e.h).2;have hge:∀x,x∈f::args.toList→(qc6 (qal e R1) oc).getS x=(qal e R1).getS x:=fun x hx=>by
    unfold Env.getS;rw[get_narrow (by rw[hops];exact hx)]
   have hmap:args.toList.map (qc6 (qal e R1) oc).getS=args.toList.map (qal e R1).getS:=List.map_congr_left fun x hx=>hge x (by simp[hx]);have hall':=haveAll_narrow (o:=oc) (fun x hx=>by rw[hops];exact hx) hall;rw[hop];refine⟨hall',?_⟩;rw[hge f (by simp),hf,hmap];exact hc
 refine awp_drawK0 m jc hm hml hT d fun hk=>?_;obtain⟨_,_,g3⟩:=hall2 hk;have:∀(A B:List DR) (x:Env),qal x (A++B)=qal (qal x A) B:=by
  intro A
  induction A with
  |nil=>intro B x;rfl
  |cons a A ih=>intro B x;exact ih B _
 have e3:(qal e (R1++rc::R2)).t=(qal (rc.next ⟨(qal e R1).t,h2⟩) R2).t:=by
  rw[this];show(qal (rc.next (qal e R1)) R2).t=_;have q:=next_quiet (r:=rc) (by rw[←hrc];exact⟨none,rfl⟩) (qal e R1) h2;rw[q.1,(qb8 hq2 (rc.next (qal e R1)) h2).1]
 rw[e3];exact g3
end
attribute [go_sem] opsK1 callK TPend DR.isQ
end Go.Abs

namespace Go.Abs
theorem append_wit0{P:Program}{T:TypeId}{s x:AV}{h:qab}{K:AV→qab→Prop}(hK:aAppend0 P T s x h K):∃r h2,aAppend0 P T s x h (fun r1 h1=>True∧r1=r∧h1=h2)∧K r h2:=by
 unfold aAppend0 at hK;split at hK
 rotate_left
 ·exact hK.elim
 rename_i h1 h2;obtain⟨g1,g2,g3,g4,g5,hK⟩:=hK;split at hK
 ·refine⟨_,_,?_,hK.2⟩;unfold aAppend0;simp only[h1,h2];exact⟨g1,g2,g3,g4,g5,hK.1,trivial,trivial,trivial⟩
 ·split at hK
  ·rename_i h3;obtain⟨k1,k2,k3,k4,k5⟩:=hK;refine⟨_,_,?_,k5⟩;unfold aAppend0;simp only[h1,h2,h3];exact⟨g1,g2,g3,g4,g5,k1,k2,k3,k4,trivial,trivial,trivial⟩
  ·rename_i h3;obtain⟨k1,k2,k3,k4,k5⟩:=hK;refine⟨_,_,?_,k5⟩;unfold aAppend0;simp only[h1,h2,h3];exact⟨g1,g2,g3,g4,g5,k1,k2,k3,k4,trivial,trivial,trivial⟩
  ·exact hK.elim
 ·exact hK.elim
theorem append_wit{P:Program}{T:TypeId}{s x:AV}{h:qab}{K:AV→qab→Prop}(hK:aAppend P T s x h K):∃r h2,aAppend P T s x h (fun r1 h1=>True∧r1=r∧h1=h2)∧K r h2:=by
 unfold aAppend at hK⊢;split at hK
 ·split at hK
  ·rename_i h1;split at hK
   ·rename_i h3;obtain⟨k1,k2,k3,k4,k5,k6,k7,k8,k9,k10⟩:=hK;refine⟨_,_,?_,k10⟩;simp only[h1,h3];exact⟨k1,k2,k3,k4,k5,k6,k7,k8,k9,by simp⟩
   ·exact hK.elim
  ·exact hK.elim
 ·exact append_wit0 hK
section
variable {P:Program} {E:Ent}
def callA(P:Program)(N:Nat)(Q:AExit→Env→Prop)(tl:List Oper)(ds:List (Option Tmp))(l:List Oper)(e:Env)(acc:List DR)(pd:qab→Prop):Prop :=
 match l with
 | []=>False
 |o::l =>
  match o.op with
  | .call { callee:=.builtin .append,args,argTypes } =>
   o.guard=none∧qee N o.dst∧acc.all DR.isQ=true∧qaw e true args.toList∧match args.toList,argTypes.toList with
   | [x,y],[T,T']=>T'=T∧aAppend P T (e.getS x) (e.getS y) e.h
     (fun r h2=>pd h2∧opsDG P N (ds++[o.dst]) l ((⟨o.dst,r,.quiet none⟩:DR).next ⟨e.t,h2⟩) (acc++[⟨o.dst,r,.quiet none⟩]) fun R e1=>R.all DR.isQ=true∧opsG P N Q (ds++o.dst::l.map (·.dst)) tl ⟨e1.t,h2⟩)
   |_,_=>False
  |_=>False
theorem awp_drawP{id:Nat}(m jc:Nat)(u:List Nat){l:List Oper}{Q:AExit→Env→Prop}{e:Env}(hm:P.follows .mixedOrders=true)(hB:checkK m jc u l=true)
  (h:opsK1 P E.N u (callA P E.N Q (l.drop m)) jc 0 [] (l.take m) e [] fun _=>True):AWp P E (.region id l.toArray true) Q e:=by
 simp only[checkK,Bool.and_eq_true,decide_eq_true_eq]at hB;obtain⟨⟨⟨⟨hml,hjm⟩,hdB⟩,hT⟩,hO⟩:=hB;have hok:=drawOk_of hdB;obtain⟨R1,pd,hR1,hn,hs1,hK,hp⟩:=opsK1_wit h;simp only[List.nil_append]at hs1 hK hp;have hlen:(l.take m).length=m:=by simp;omega
 have hd:(l.take m).drop jc=(l.take m)[jc]'(by omega)::(l.take m).drop (jc+1):=List.drop_eq_getElem_cons (by omega);generalize hoc:(l.take m)[jc]'(by omega)=oc at hd;have hoc':(l.take m)[jc]?=some oc:=by rw[←hoc];exact List.getElem?_eq_getElem _
 rw[hd]at hK;simp only[callA]at hK;split at hK
 rotate_left
 ·exact hK.elim
 rename_i args ats hop;obtain⟨hg,hdst,hQ1,hall,hK⟩:=hK;have hq1:=allQ_iff.1 hQ1;split at hK
 rotate_left
 ·exact hK.elim
 rename_i x y T T' hx hT';obtain⟨hTT,hK⟩:=hK;obtain⟨r,h2,hc,hKA'⟩:=append_wit hK;have hKA:=fun (_:True)=>hKA';have hord:∀k,k<m→k≠jc→(k<jc∧(ordB (Region.before (l.take m).toArray) k jc=true∨k∈u))∨(jc<k∧ordB (Region.before (l.take m).toArray) jc k=true):=fun k hk hne=>by
  have:=List.all_eq_true.1 hO k (List.mem_range.2 hk);simp only[Bool.or_eq_true,beq_iff_eq,Bool.and_eq_true,decide_eq_true_eq,List.contains_iff_mem]at this;rcases this with(h1|h1)|h1
  ·exact(hne h1).elim
  ·exact .inl h1
  ·exact .inr h1
 have hops:oc.op.operands.toList=args.toList:=by
  rw[hop];simp[Op.operands,Call.operands]
 -- the results behind the call
 have hR2:∃R2:List DR,R2.length=((l.take m).drop (jc+1)).length∧(∀r',r'∈R2→∃rd,r'.k=.quiet rd)∧(∀(j:Nat) (r':DR),R2[j]?=some r'→∃o,((l.take m).drop (jc+1))[j]?=some o∧r'.dst=o.dst) ∧
   (True→pd h2∧(∀(j:Nat) (o:Oper),((l.take m).drop (jc+1))[j]?=some o→stepD P E.N (((l.take m).take jc).map (·.dst)++[oc.dst]++(((l.take m).drop (jc+1)).take j).map (·.dst)) o (qal ((⟨oc.dst,r,.quiet none⟩:DR).next ⟨(qal e R1).t,h2⟩) (R2.take j)) (fun r'=>R2[j]?=some r')) ∧
    opsG P E.N Q ((l.take m).map (·.dst)) (l.drop m) ⟨(qal ((⟨oc.dst,r,.quiet none⟩:DR).next ⟨(qal e R1).t,h2⟩) R2).t,h2⟩):=by
  by_cases hk:True
  ·obtain⟨h3,h4⟩:=hKA hk;obtain⟨R2,g1,g2,g3⟩:=opsD_wit (opsDG_D h4);obtain⟨g4,g5⟩:=g3;rw[List.all_append,List.all_append,Bool.and_eq_true,Bool.and_eq_true]at g4;refine⟨R2,g1,allQ_iff.1 g4.2,fun j r' hj=>?_,fun _=>⟨h3,g2,?_⟩⟩
   ·have hlt:j<((l.take m).drop (jc+1)).length:=by rw[←g1];exact(List.getElem?_eq_some_iff.1 hj).1
    obtain⟨_,r'',k1,k2,_⟩:=stepD_dst (g2 j _ (List.getElem?_eq_getElem hlt));rw[hj]at k2;cases k2;exact⟨_,List.getElem?_eq_getElem hlt,k1⟩
   ·have e1:((l.take m).take jc).map (·.dst)++oc.dst::((l.take m).drop (jc+1)).map (·.dst)=(l.take m).map (·.dst):=by
     have h5:=List.take_append_drop jc (l.take m);rw[hd]at h5
     conv=>rhs;rw[←h5]
     rw[List.map_append,List.map_cons]
    rw[e1]at g5;exact g5
  ·refine⟨((l.take m).drop (jc+1)).map fun o=>⟨o.dst,.top,.quiet none⟩,by simp,fun r' hr=>?_,fun j r' hj=>?_,fun h=>(hk h).elim⟩
   ·rw[List.mem_map]at hr;obtain⟨o,_,rfl⟩:=hr;exact⟨none,rfl⟩
   ·rw[List.getElem?_map,Option.map_eq_some_iff]at hj;obtain⟨o,h1,rfl⟩:=hj;exact⟨o,h1,rfl⟩
 obtain⟨R2,hl2,hq2,hd2,hall2⟩:=hR2;generalize hrc:(⟨oc.dst,r,.quiet none⟩:DR)=rc at hall2;have hget1:∀k,k<jc→(R1++rc::R2)[k]?=R1[k]?:=fun k hk=>List.getElem?_append_left (by omega);have hgetc:(R1++rc::R2)[jc]?=some rc:=by rw[List.getElem?_append_right (by omega),hR1,Nat.sub_self];rfl
 have hget2:∀k,jc<k→(R1++rc::R2)[k]?=R2[k - (jc+1)]?:=fun k hk=>by
  rw[List.getElem?_append_right (by omega),hR1,show k - jc=(k - (jc+1))+1 by omega,List.getElem?_cons_succ]
 have htake1:∀k,k≤jc→(R1++rc::R2).take k=R1.take k:=fun k hk=>by rw[List.take_append_of_le_length (by omega)]
 have htake2:∀k,jc<k→(R1++rc::R2).take k=R1++rc::R2.take (k - (jc+1)):=fun k hk=>by
  rw[List.take_append,List.take_of_length_le (by omega),hR1,show k - jc=(k - (jc+1))+1 by omega,List.take_succ_cons]
 have hqR:∀r',r'∈R1++rc::R2→∃rd,r'.k=.quiet rd:=fun r' hr=>by
  rcases List.mem_append.1 hr with hr|hr
  ·exact hq1 r' (by simpa using hr)
  ·rcases List.mem_cons.1 hr with rfl|hr
   ·rw[←hrc];exact⟨none,rfl⟩
   ·exact hq2 r' hr
 have hdrop:∀k,jc<k→((l.take m).drop (jc+1))[k - (jc+1)]?=(l.take m)[k]?:=fun k hk=>by
  rw[List.getElem?_drop,show jc+1+(k - (jc+1))=k by omega]
 have dW:DRegW (l.take m) (R1++rc::R2):=by
  refine⟨hok,by simp[hR1,hl2];omega,fun {k r'} hr=>?_,fun k s r' r'' i off cs _ _ hs hk=>?_⟩
  ·have hlt:k<m:=by have:=(List.getElem?_eq_some_iff.1 hr).1;simp[hR1,hl2]at this;omega
   obtain⟨rd,hk⟩:=hqR r' (List.mem_of_getElem? hr);have hno:(∃i off cs,r'.k=.store i off cs)→∀o:Oper,isStore o.op=true:=by
    rintro⟨i,off,cs,h⟩;rw[hk]at h;cases h
   rcases Nat.lt_trichotomy k jc with h1|h1|h1
   ·rw[hget1 k h1]at hr;have hlt':k<(l.take m).length:=by omega
    obtain⟨_,r'',k1,k2,_⟩:=stepD_dst (hs1 k _ h1 (List.getElem?_eq_getElem hlt'));rw[hr]at k2;cases k2;exact⟨_,List.getElem?_eq_getElem hlt',k1,fun h=>hno h _⟩
   ·subst h1;rw[hgetc]at hr;cases hr;exact⟨oc,hoc',by rw[←hrc],fun h=>hno h _⟩
   ·rw[hget2 k h1]at hr;obtain⟨o,k1,k2⟩:=hd2 _ _ hr;rw[hdrop k h1]at k1;exact⟨o,k1,k2,fun h=>hno h _⟩
  ·obtain⟨rd,h1⟩:=hqR r'' (List.mem_of_getElem? hs);rw[h1]at hk;cases hk
 have d:DRegK P E (l.take m) e (R1++rc::R2) jc h2 True Q:=by
  refine⟨dW,by omega,hqR,fun k o ho hne hno=>?_,fun hk k o ho hne hno=>?_,fun o ho=>?_⟩
  ·have hlt:k<m:=by have:=(List.getElem?_eq_some_iff.1 ho).1;omega
   rcases hord k hlt hne with⟨h1,_⟩|⟨_,h1⟩
   ·rw[htake1 k (by omega),hget1 k h1];exact hs1 k o h1 ho
   ·rw[h1]at hno;cases hno
  ·have hlt:k<m:=by have:=(List.getElem?_eq_some_iff.1 ho).1;omega
   obtain⟨g1,g2,_⟩:=hall2 hk;rcases hord k hlt hne with⟨h1,h3|h3⟩|⟨h1,_⟩
   ·rw[h3]at hno;cases hno
   ·have:=(hp h2 g1).2 k o h1 (by rwa [Nat.zero_add]) ho;rw[htake1 k (by omega),hget1 k h1,(qb8 (R:=R1.take k) (fun r' hr=>hq1 r' (by simpa using List.mem_of_mem_take hr)) e h2).1];exact this
   ·have:=g2 (k - (jc+1)) o (by rw[hdrop k h1];exact ho);have e1:((l.take m).take jc).map (·.dst)++[oc.dst]++(((l.take m).drop (jc+1)).take (k - (jc+1))).map (·.dst)=((l.take m).take k).map (·.dst):=by
     rw[show(l.take m).take k=(l.take m).take (jc+(1+(k - (jc+1))))by congr 1;omega,List.take_add,hd,List.map_append,Nat.add_comm 1,List.take_succ_cons];simp
    rw[e1]at this;rw[htake2 k h1,hget2 k h1];have e2:qal ⟨e.t,h2⟩ (R1++rc::R2.take (k - (jc+1)))=qal (rc.next ⟨(qal e R1).t,h2⟩) (R2.take (k - (jc+1))):=by
     have:∀(A B:List DR) (x:Env),qal x (A++B)=qal (qal x A) B:=by
      intro A
      induction A with
      |nil=>intro B x;rfl
      |cons a A ih=>intro B x;exact ih B _
     rw[this,(qb8 (R:=R1) (fun r' hr=>hq1 r' (by simpa using hr)) e h2).1];rfl
    rw[e2];exact this
  ·rw[hoc']at ho;cases ho;refine⟨r,by rw[hg];rfl,hdst,by rw[hgetc,←hrc,hg];rfl,?_⟩;rw[htake1 jc (Nat.le_refl _),List.take_of_length_le (by omega)];show opEff P (qc6 (qal e R1) oc) oc.op _ _;have hh:=(qb8 (R:=R1) (fun r' hr=>hq1 r' (by simpa using hr)) e e.h).2;have hge:∀z,z∈args.toList→(qc6 (qal e R1) oc).getS z=(qal e R1).getS z:=fun z hz=>by
    unfold Env.getS;rw[get_narrow (by rw[hops];exact hz)]
   have hall':=haveAll_narrow (o:=oc) (fun z hz=>by rw[hops];exact hz) hall;rw[hop];simp only[opEff,hx,hT'];rw[hx]at hall' hge;refine⟨hall',hTT,?_⟩;rw[hge x (by simp),hge y (by simp)];exact hc
 refine awp_drawK0 m jc hm hml hT d fun hk=>?_;obtain⟨_,_,g3⟩:=hall2 hk;have:∀(A B:List DR) (x:Env),qal x (A++B)=qal (qal x A) B:=by
  intro A
  induction A with
  |nil=>intro B x;rfl
  |cons a A ih=>intro B x;exact ih B _
 have e3:(qal e (R1++rc::R2)).t=(qal (rc.next ⟨(qal e R1).t,h2⟩) R2).t:=by
  rw[this];show(qal (rc.next (qal e R1)) R2).t=_;have q:=next_quiet (r:=rc) (by rw[←hrc];exact⟨none,rfl⟩) (qal e R1) h2;rw[q.1,(qb8 hq2 (rc.next (qal e R1)) h2).1]
 rw[e3];exact g3
end
attribute [go_sem] callA
end Go.Abs
