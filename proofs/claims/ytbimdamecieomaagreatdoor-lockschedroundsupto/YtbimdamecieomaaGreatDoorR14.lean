/- Part 14 of a proof. -/
import Derived.Test.YtbimdamecieomaaGreatDoorR13
set_option linter.all false
namespace Go.Abs
section
variable {P:Program} {E:Ent}
theorem jfr{l:List Oper}{e0:Env}{R:List DR}(d:DRegW l R)(hq:∀r,r∈R→∃rd,r.k=.quiet rd){X:Nat→Bool}(l9:qqg l X){c:Ctx}{a:Act}{w:World}(inv:DInv E e0 R X c a w){i:Nat}{o:Oper}(hi:l[i]?=some o)(wh:X i=false)
  (qtn:∀e,e∈o.after→Region.binds .any e=true→X e.on=true) (hg:o.guard=none) (hd:yw E.N o.dst) {r:AV} (hr:R[i]?=some ⟨o.dst,r,.quiet none⟩) {h':gz} {ok:Prop} {Qa:AExit→Env→Prop}
  (hc:qpf P (qo3 (ja e0 (R.take i)) o) o.op (fun r1 h1=>ok∧r1=r∧h1=h') fun v h1=>Qa (.panic v) ⟨[],h1⟩) :
  wpOp P l.toArray (qna E Qa) i (fun a' w'=>ok∧∃c',DInv E ⟨e0.t,h'⟩ R (fun j=>if j=i then true else X j) c' a' w') a w:=by
 have hslots:=xxl d l9 inv.tmps hi wh qtn;have hs:HSim c e0.h w:=by have:=inv.hs;rwa [xbj hq]at this
 have jm:E.ok c e0.h w:=by have:=inv.ok;rwa [xbj hq]at this
 have hhe:(ja e0 (R.take i)).h=e0.h:=by rw[qxj,xma (fun r hr=>hq r (gc hr)),e8]
 have qg:(l.toArray)[i]?=some o:=qf1;have hsim:Sim E.N c (qo3 (ja e0 (R.take i)) o) a w:=⟨inv.defers,inv.size,fun t=>by
  simp only[qo3,xk7];split
  ·rename_i ht;exact hslots t (List.mem_append_left _ ht)
  ·exact .top _,by simp only[qo3,hhe];exact hs⟩
 unfold wpOp;simp only[qg];rw[if_pos (by simp[Region.wanted,hg])];refine .inl (xgx (E:=⟨E.N,c,e0.h,w⟩) hsim (by simp only[qo3,hhe];exact Ent.ok.refl _ hs) hc (fun v h1 c' w' u hR ig jd kb hru=>?_) (fun v h1 c' w' u hR ig jd kb hru=>?_))
 ·obtain⟨hok1,rfl,rfl⟩:=hR;refine⟨hok1,c',qi4,qh7,fun t=>?_,by rw[xbj hq];exact jd,by rw[xbj hq];exact jm.trans kb,fun j rj xs hj s9 _=>?_,fun rj hrj i' off cs s9=>?_⟩
  ·have h1:=xbo (X:=X) (t:=t) (k:=0) (x:=kj e0.t t) hr (fun j r' je hd hn=>by
    obtain⟨o',ky,ws,_⟩:=d.dst je;exact d.ok.uniq i o j o' hi ky hn (by rw[←ws,hd]))
   simp only[db]at h1;show Rel c' (wa _ t 0 R (kj e0.t t)) _;rw[h1];cases qq7:o.dst with
   |none =>
    rw[if_neg ae];exact(inv.tmps t).mono ig
   |some dd =>
    have ib:dd<a.tmps.size:=by rw[inv.size];rw[qq7]at hd;exact hd
    by_cases hdt:dd=t
    ·subst hdt;rw[if_pos rfl];simpa[Act.put,ib]using hru
    ·rw[if_neg (by simpa using hdt)];have:=(inv.tmps t).mono ig;simpa[Act.put,ed,gt hdt]using this
  ·obtain⟨rd,hk⟩:=hq rj (c7 hj);rw[hk]at s9;cases s9
  ·obtain⟨j,h1,_⟩:=qvq hrj;obtain⟨rd,hk⟩:=hq rj (c7 h1);rw[hk]at s9;cases s9
 ·exact⟨.panic v,⟨[],h1⟩,c',hR,hru,⟨inv.defers,inv.size,fun _=>.top _,jd⟩,jm.trans kb⟩
structure DRegK(P:Program)(E:Ent)(l:List Oper)(e0:Env)(R:List DR)(jc:Nat)(h2:gz)(ok:Prop)(Qa:AExit→Env→Prop):Prop where
 w:DRegW l R
 lt:jc<l.length
 quiet:∀r,r∈R→∃rd,r.k=.quiet rd
 before:∀(k:Nat) (o:Oper),l[k]?=some o→k≠jc→sf (Region.before l.toArray) jc k=false→uy P E.N ((l.take k).map (·.dst)) o (ja ⟨e0.t,e0.h⟩ (R.take k)) (fun r=>R[k]?=some r)
 after:ok→∀(k:Nat) (o:Oper),l[k]?=some o→k≠jc→sf (Region.before l.toArray) k jc=false→uy P E.N ((l.take k).map (·.dst)) o (ja ⟨e0.t,h2⟩ (R.take k)) (fun r=>R[k]?=some r)
 eff:∀o,l[jc]?=some o→∃r:AV,o.guard=none∧yw E.N o.dst∧R[jc]?=some ⟨o.dst,r,.quiet none⟩∧qpf P (qo3 (ja ⟨e0.t,e0.h⟩ (R.take jc)) o) o.op (fun r1 h1=>ok∧r1=r∧h1=h2) fun v h1=>Qa (.panic v) ⟨[],h1⟩
theorem xuh{l:List Oper}{e0:Env}{R:List DR}{jc:Nat}{h2:gz}{ok:Prop}{Qa:AExit→Env→Prop}(d:DRegK P E l e0 R jc h2 ok Qa){X:Nat→Bool}(hj:X jc=true)(ix:∀j,j<l.length→X j=true){c:Ctx}{a:Act}{w:World}(inv:DInv E ⟨e0.t,bif X jc then h2 else e0.h⟩ R X c a w) :
  Sim E.N c ⟨(ja e0 R).t,h2⟩ a w∧E.ok c h2 w:=by
 have h1:∀j r,R[j]?=some r→X (0+j)=true:=fun j r hr=>by rw[db];exact ix j (by rw[←d.w.len];exact(cq.1 hr).1)
 have hs:=inv.hs;have hk:=inv.ok;rw[xbj d.quiet,hj]at hs hk;refine⟨⟨inv.defers,inv.size,fun t=>?_,hs⟩,hk⟩;have:=inv.tmps t;rw[qet (Y:=fun _=>true) fun j r hr _=>h1 j r hr]at this;rw[xec];exact this
theorem jkg{l:List Oper}{e0:Env}{R:List DR}{jc:Nat}{h2:gz}{ok:Prop}{Qa:AExit→Env→Prop}(d:DRegK P E l e0 R jc h2 ok Qa){X:Nat→Bool}(hX1:X jc=true→ok)(l9:qqg l X){c:Ctx}{a:Act}{w:World}(inv:DInv E ⟨e0.t,bif X jc then h2 else e0.h⟩ R X c a w){i:Nat}{o:Oper}(hi:l[i]?=some o)(wh:X i=false)
  (qtn:∀e,e∈o.after→Region.binds .any e=true→X e.on=true) :
  wpOp P l.toArray (qna E Qa) i (fun a' w'=>((if jc=i then true else X jc)=true→ok)∧∃c',DInv E ⟨e0.t,bif (if jc=i then true else X jc)then h2 else e0.h⟩ R (fun j=>if j=i then true else X j) c' a' w') a w:=by
 by_cases hij:i=jc
 ·subst hij;obtain⟨r,g2,g3,g6,g7⟩:=d.eff o hi;rw[wh]at inv;rw[if_pos rfl];refine wpOp_mono ?_ (jfr (e0:=⟨e0.t,e0.h⟩) d.w d.quiet l9 inv hi wh qtn g2 g3 g6 g7);rintro a' w' ⟨h1,h2⟩;exact⟨fun _=>h1,h2⟩
 ·rw[if_neg (Ne.symm hij)];cases hX:X jc with
  |true =>
   rw[hX]at inv;have iz:sf (Region.before l.toArray) i jc=false:=by
    cases hb:sf (Region.before l.toArray) i jc with
    |false=>rfl
    |true =>
     have kg:l[jc]?=some (l[jc]'(d.lt)):=by simp[d.lt]
     have:=qrc l9 jc i _ kg (l9 jc _ hX kg) hb;rw[wh]at this;cases this
   have jr:E.h.length≤h2.length:=qkh;refine wpOp_mono ?_ (xc6 (Q:=qna E Qa) (e0:=⟨e0.t,h2⟩) d.w jr l9 inv hi wh qtn (d.after (hX1 hX) i o hi hij iz));exact fun a' w' h=>⟨fun _=>hX1 hX,h⟩
  |false =>
   rw[hX]at inv;have iz:sf (Region.before l.toArray) jc i=false:=by
    cases hb:sf (Region.before l.toArray) jc i with
    |false=>rfl
    |true=>have:=qrc l9 i jc o hi qtn hb;rw[hX]at this;cases this
   have jr:E.h.length≤e0.h.length:=qkh;refine wpOp_mono ?_ (xc6 (Q:=qna E Qa) (e0:=⟨e0.t,e0.h⟩) d.w jr l9 inv hi wh qtn (d.before i o hi hij iz));exact fun a' w' h=>⟨fun h'=>(by cases h'),h⟩
theorem xyz{l:List Oper}{m jc:Nat}{h2:gz}(hm:m≤l.length)(t:TailOk m l){e0:Env}{R:List DR}{ok:Prop}{Qa:AExit→Env→Prop}(d:DRegK P E (l.take m) e0 R jc h2 ok Qa)
  (hQ:ok→∀c a w,Sim E.N c ⟨(ja e0 R).t,h2⟩ a w→E.ok c h2 w→wpList P l.toArray (qna E Qa) (l.drop m) a w) :
  ∀(lf:Nat) (L:Array Bool),L.size=l.length→(∀j,m≤j→L.getD j false=false)→L.toList.count false≤lf→qqg l (fun j=>L.getD j false)→∀(c:Ctx) (a:Act) (w:World),(L.getD jc false=true→ok)→DInv E ⟨e0.t,bif L.getD jc false then h2 else e0.h⟩ R (fun j=>L.getD j false) c a w→wpAny P .any l.toArray (qna E Qa) lf L a w:=by
 intro lf;have jr:(l.take m).length=m:=am;have qw2:∀(L:Array Bool),(∀j,m≤j→L.getD j false=false)→(∀j,j<m→L.getD j false=true)→∀j,j<l.length→(L.getD j false=true↔j<m):=fun L oo ix j _=>by
  refine⟨fun h=>?_,ix j⟩;rcases d8 j m with h1|h1
  ·exact h1
  ·rw[oo j h1]at h;cases h
 have qv5:∀(k:Nat) (L:Array Bool),L.size=l.length→(∀j,k≤j→L.getD j false=false)→k≤l.length→l.length - k≤L.toList.count false:=fun k L hL hk hkl=>by
  have h1:(L.toList.drop k).count false=l.length - k:=by
   have h2:(L.toList.drop k).count false=(L.toList.drop k).length:=List.count_eq_length.2 fun b hb=>by
    obtain⟨j,hj⟩:=dv hb;rw[ez]at hj;have:=hk (k+j) aa;simp only[ed]at this;rw[←fc,hj]at this;simpa using this.symm
   rw[h2];simp[hL]
  have h3:(L.toList.drop k).Sublist L.toList:=List.drop_sublist _ _;have:=h3.count_le false;omega
 induction lf with
 |zero =>
  intro L hL oo hc l9 c a w jm inv;by_cases ix:∀j,j<m→L.getD j false=true
  ·have y6:=ix jc (by have:=d.lt;omega);obtain⟨s,k⟩:=xuh d (by simpa using y6) (fun j hj=>ix j aa) inv;have:=qv5 m L hL oo hm;exact xeg t 0 m L (ct _) hm hL (qw2 L oo ix) aa a w (hQ (jm y6) c a w s k)
  ·obtain⟨i,h1,h2,_⟩:=qzp ix;have:=xmd (L:=L) (i:=i) aa h2;omega
 |succ lf ih =>
  intro L hL oo hc l9 c a w jm inv;by_cases ix:∀j,j<m→L.getD j false=true
  ·have y6:=ix jc (by have:=d.lt;omega);obtain⟨s,k⟩:=xuh d (by simpa using y6) (fun j hj=>ix j aa) inv;have:=qv5 m L hL oo hm;exact xeg t (lf+1) m L (ct _) hm hL (qw2 L oo ix) aa a w (hQ (jm y6) c a w s k)
  ·obtain⟨i0,g1,g2,g3⟩:=qzp ix;refine⟨fun hr=>?_,fun i hi=>?_⟩
   ·have:=xe5 t.after hL (i:=i0) aa g2 g3;rw[hr]at this;cases this
   ·obtain⟨o,h1,h2,h3⟩:=xbh hi;have ib:i<L.size:=by rw[hL];exact(cq.1 h1).1
    have hLi:L.getD i false=false:=qiy;have zb:i<m:=by
     rcases d8 i m with h4|h4
     ·exact h4
     ·have:=qrc l9 i i0 o h1 h3 (t.ord i i0 h4 aa aa);rw[show L.getD i0 false=false from g2]at this;cases this
    have ll:(l.take m)[i]?=some o:=by rw[dx,if_pos zb];exact h1
    have hcl':qqg (l.take m) fun j=>L.getD j false:=fun j o' hj ky e he hb=>by
     have hjm:j<m:=by have:=(cq.1 ky).1;omega
     rw[dx,if_pos hjm]at ky;exact l9 j o' hj ky e he hb
    refine xjq zb (fun o' j want ky hg=>?_) (wpOp_mono ?_ (jkg d (X:=fun j=>L.getD j false) jm hcl' inv ll hLi h3))
    ·rw[h1]at ky;cases ky;have:=d.w.ok.guard i o j want ll hg;omega
    ·rintro a' w' ⟨qw,c',inv'⟩;have hjf:(if jc=i then true else L.getD jc false)=(L.setIfInBounds i true).getD jc false:=congrFun (qu8 ib) jc;rw[qu8 ib,hjf]at inv';rw[hjf]at qw;refine ih _ qj8 (fun j hj=>?_) ?_ (xme ib h1 h3 l9) c' a' w' qw inv'
     ·have hf:=congrFun (qu8 ib) j;rw[←hf,if_neg aa];exact oo j hj
     ·have:=xdd ib hLi;omega
theorem xvv{id:Nat}(m jc:Nat){l:List Oper}{Q:AExit→Env→Prop}{e:Env}{R:List DR}{h2:gz}{ok:Prop}(hm:P.follows .mixedOrders=true)(sp:m≤l.length)(hT:qus m l=true)(d:DRegK P E (l.take m) e R jc h2 ok Q)
  (hQ:ok→qnz P E.N Q ((l.take m).map (·.dst)) (l.drop m) ⟨(ja e R).t,h2⟩):AWp P E (.region id l.toArray true) Q e:=fun c a w s k=>by
 refine wp_region_any hm ?_;have jd:HSim c e.h { w with drawn:=w.drawn+1 }:=s.hs.ext (fun _ _=>rfl) (.refl c) (fun _ _=>rfl) (fun _ _ _ h=>.inl h) s.hs.dom;have kb:E.ok c e.h { w with drawn:=w.drawn+1 }:=k.ext' s.hs (fun _ _=>rfl) (.refl c) (fun _=>rfl) rfl rfl rfl (ct _) (fun _ _ _ h=>.inl h);have hff:(fun _=>false)=fun j=>(Array.replicate l.toArray.size false).getD j false:=by
  funext j;simp[ed,Array.getElem?_replicate];split<;>rfl
 have h0:=congrFun hff jc;refine xyz sp (xjs hT) d (fun jm c' a' w' s' k'=>?_) _ _ ae (fun j _=>(congrFun hff j).symm) ?_ ?_ c a _ ?_ ?_
 ·exact qds (l.drop m) (l.take m) _ ae (hQ jm) c' a' w' s' k'
 ·simp
 ·intro j o hj;rw[←hff]at hj;cases hj
 ·intro h1;rw[←h0]at h1;cases h1
 ·rw[←h0,←hff];exact xe9 (e0:=⟨e.t,e.h⟩) ⟨s.defers,s.size,s.tmps,jd⟩ kb
def DR.isQ(r:DR):Bool:=match r.k with
 | .quiet _=>true
 |_=>false
theorem xdz{R:List DR}:R.all DR.isQ=true↔∀r,r∈R→∃rd,r.k=.quiet rd:=by
 rw[dw];refine⟨fun h r hr=>?_,fun h r hr=>?_⟩
 ·have:=h r hr;unfold DR.isQ at this;split at this
  ·rename_i rd h1;exact⟨rd,h1⟩
  ·cases this
 ·obtain⟨rd,h1⟩:=h r hr;simp[DR.isQ,h1]
theorem xj8{r:DR}(h:∃rd,r.k=.quiet rd)(e:Env)(h':gz):r.next ⟨e.t,h'⟩=⟨(r.next e).t,h'⟩∧(r.next e).h=e.h:=by
 obtain⟨rd,hk⟩:=h;unfold DR.next
 simp only[hk];cases r.dst<;>exact⟨rfl,rfl⟩
theorem qdk:∀{R:List DR},(∀r,r∈R→∃rd,r.k=.quiet rd)→∀(e:Env) (h':gz),ja ⟨e.t,h'⟩ R=⟨(ja e R).t,h'⟩∧(ja e R).h=e.h
 | [],_,_,_=>⟨rfl,rfl⟩
 |r::R,h,e,h'=>by
  have h1:=xj8 (h r ae) e h';have h2:=qdk (R:=R) (fun r' hr=>h r' (List.mem_cons_of_mem _ hr)) (r.next e) h';simp only[ja];rw[h1.1];exact⟨h2.1,by rw[h2.2,h1.2]⟩
def xlg(P:Program)(fid:FuncId)(args:List AV)(e:Env)(KA:AV→gz→Prop)(KP:AV→gz→Prop)(_:Tag KA)(_:Tag KP):Prop :=
 ∃(ok:Prop) (r:AV) (h2:gz),ACalls P fid args e.h (fun x h'=>match x with
  | .ret v=>ok∧v=r∧h'=h2
  | .panic v=>KP v h')∧(ok→KA r h2)
theorem xaw{P:Program}{fid:FuncId}{args:List AV}{e:Env}{KA:AV→gz→Prop}{KP:AV→gz→Prop}{t1:Tag KA}{t2:Tag KP}{r:AV}{h2:gz}(h:ACalls P fid args e.h fun x h'=>x=.ret r∧h'=h2)(k:KA r h2):xlg P fid args e KA KP t1 t2 :=
 ⟨True,r,h2,h.mono (by rintro _ _ ⟨rfl,rfl⟩;exact⟨trivial,rfl,rfl⟩),fun _=>k⟩
theorem jgl{P:Program}{fid:FuncId}{args:List AV}{e:Env}{KA:AV→gz→Prop}{KP:AV→gz→Prop}{t1:Tag KA}{t2:Tag KP}{v:AV}{h2:gz}(h:ACalls P fid args e.h fun x h'=>x=.panic v∧h'=h2)(k:KP v h2):xlg P fid args e KA KP t1 t2 :=
 ⟨False,.top,h2,h.mono (by rintro _ _ ⟨rfl,rfl⟩;exact k),fun h=>h.elim⟩
def xj6(f:gz→Prop)(_:Tag f)(h:gz):Prop:=f h
def qyh(P:Program)(N:Nat)(u:List Nat)(KC:List (Option Tmp)→List Oper→Env→List DR→(gz→Prop)→Prop):Nat→Nat→List (Option Tmp)→List Oper→Env→List DR→(gz→Prop)→Prop
 | 0,_,ds,l,e,iu,pd=>KC ds l e iu pd
 |_+1,_,_,[],_,_,_=>False
 |n+1,k,ds,o::l,e,iu,pd=>qyi P N ds o e iu fun e iu r=>qyh P N u KC n (k+1) (ds++[o.dst]) l (r.next e) (iu++[r])
   (if k∈u then xj6 (fun h2=>pd h2∧qyi P N ds o ⟨e.t,h2⟩ iu fun _ _ r'=>r'=r) ⟨⟩else pd)
def xhq(P:Program)(N:Nat)(Q:AExit→Env→Prop)(tl:List Oper)(ds:List (Option Tmp))(l:List Oper)(e:Env)(iu:List DR)(pd:gz→Prop):Prop :=
 match l with
 | []=>False
 |o::l =>
  match o.op with
  | .call { callee:=.value f,args,.. } =>
   o.guard=none∧yw N o.dst∧iu.all DR.isQ=true∧l6 e true (f::args.toList)∧match e.getS f with
   | .fn (.func fid) first caps=>xlg P fid (kc e.h (first++args.toList.map e.getS++caps)) e
     (fun r h2=>pd h2∧qwe P N (ds++[o.dst]) l ((⟨o.dst,r,.quiet none⟩:DR).next ⟨e.t,h2⟩) (iu++[⟨o.dst,r,.quiet none⟩]) fun R e1=>R.all DR.isQ=true∧qnz P N Q (ds++o.dst::l.map (·.dst)) tl ⟨e1.t,h2⟩)
     (fun v h2=>Q (.panic v) ⟨[],h2⟩) ⟨⟩ ⟨⟩
   |_=>False
  |_=>False
def xfz(m jc:Nat)(u:List Nat)(l:List Oper):Bool :=
 let b:=Region.before (l.take m).toArray
 decide (m≤l.length)&&decide (jc<m)&&quy (l.take m)&&qus m l &&
 ((List.range m).all fun k=>k == jc||(decide (k<jc)&&(sf b k jc||u.contains k))||(decide (jc<k)&&sf b jc k))
theorem xix{P:Program}{N:Nat}{u:List Nat}{KC:List (Option Tmp)→List Oper→Env→List DR→(gz→Prop)→Prop}:∀{n k:Nat} {ds:List (Option Tmp)} {l:List Oper} {e:Env} {iu:List DR} {pd:gz→Prop},qyh P N u KC n k ds l e iu pd →
  ∃(R:List DR) (pd':gz→Prop),R.length=n∧n≤l.length∧(∀(j:Nat) (o:Oper),j<n→l[j]?=some o→uy P N (ds++(l.take j).map (·.dst)) o (ja e (R.take j)) (fun r=>R[j]?=some r)) ∧
   KC (ds++(l.take n).map (·.dst)) (l.drop n) (ja e R) (iu++R) pd' ∧
   ∀h2,pd' h2→pd h2∧∀(j:Nat) (o:Oper),j<n→k+j∈u→l[j]?=some o→uy P N (ds++(l.take j).map (·.dst)) o ⟨(ja e (R.take j)).t,h2⟩ (fun r=>R[j]?=some r)
 | 0,k,ds,l,e,iu,pd,h=>⟨[],pd,rfl,di _,fun j o hj=>by omega,by simpa[ja,qyh]using h,fun h2 hp=>⟨hp,fun j o hj=>by omega⟩⟩
 |n+1,k,ds,[],e,iu,pd,h=>h.elim
 |n+1,k,ds,o::l,e,iu,pd,h=>by
  obtain⟨r,h1,h2⟩:=xlj (xkz (K:=fun e iu r=>qyh P N u KC n (k+1) (ds++[o.dst]) l (r.next e) (iu++[r]) (if k∈u then xj6 (fun h2=>pd h2∧qyi P N ds o ⟨e.t,h2⟩ iu fun _ _ r'=>r'=r) ⟨⟩else pd)) h);obtain⟨R,pd',hl,hn,hs,hK,hp⟩:=xix h2;refine⟨r::R,pd',qhh,by simpa using hn,fun j o' hj ho=>?_,by simpa[ja]using hK,fun h2 hq=>?_⟩
  ·cases j with
   |zero =>
    simp at ho;subst ho;simpa[ja,eq_comm]using h1
   |succ j =>
    have:=hs j o' aa qgp;simpa[ja,dr]using this
  ·obtain⟨h3,h4⟩:=hp h2 hq;refine⟨?_,fun j o' hj hu ho=>?_⟩
   ·split at h3
    ·exact h3.1
    ·exact h3
   ·cases j with
    |zero =>
     simp at ho;subst ho;rw[d6]at hu;rw[if_pos hu]at h3;have:=xkz h3.2;simpa[ja,eq_comm]using this
    |succ j =>
     have:=h4 j o' aa (by rwa [show k+1+j=k+(j+1)by omega]) qgp;simpa[ja,dr]using this
theorem xg2{e:Env}{o:Oper}{x:Operand}(h:x∈o.op.operands.toList):(qo3 e o).get x=e.get x:=by
 cases x with
 |tmp t =>
  simp only[Env.get,qo3,xk7];rw[if_pos (by simp only[tmpsOf,List.mem_filterMap];exact⟨.tmp t,h,rfl⟩)]
 |_=>rfl
theorem xip{e:Env}{o:Oper}:∀{l:List Operand},(∀x,x∈l→x∈o.op.operands.toList)→l6 e true l→l6 (qo3 e o) true l
 | [],_,_=>trivial
 |x::l,h,k=>⟨by rw[xg2 (h x ae)];exact k.1,xip (fun y hy=>h y cm) k.2⟩
theorem xae{id:Nat}(m jc:Nat)(u:List Nat){l:List Oper}{Q:AExit→Env→Prop}{e:Env}(hm:P.follows .mixedOrders=true)(hB:xfz m jc u l=true)
  (h:qyh P E.N u (xhq P E.N Q (l.drop m)) jc 0 [] (l.take m) e [] fun _=>True):AWp P E (.region id l.toArray true) Q e:=by
 simp only[xfz,c0,decide_eq_true_eq]at hB;obtain⟨⟨⟨⟨sp,hjm⟩,hdB⟩,hT⟩,hO⟩:=hB;have jm:=xbi hdB;obtain⟨R1,pd,hR1,hn,u0,hK,hp⟩:=xix h;simp only[ej]at u0 hK hp;have jr:(l.take m).length=m:=am;have hd:(l.take m).drop jc=(l.take m)[jc]'aa::(l.take m).drop (jc+1):=ql1 aa;generalize hoc:(l.take m)[jc]'aa=oc at hd;have hoc':(l.take m)[jc]?=some oc:=by rw[←hoc];exact da _
 rw[hd]at hK;simp only[xhq]at hK;split at hK
 rotate_left
 ·exact hK.elim
 rename_i f args ats jy;obtain⟨hg,qq7,hQ1,ix,hK⟩:=hK;have hq1:=xdz.1 hQ1;split at hK
 rotate_left
 ·exact hK.elim
 rename_i fid first caps hf
 obtain⟨ok,r,h2,hc,hKA⟩:=hK;have qon:∀k,k<m→k≠jc→(k<jc∧(sf (Region.before (l.take m).toArray) k jc=true∨k∈u))∨(jc<k∧sf (Region.before (l.take m).toArray) jc k=true):=fun k hk ii=>by
  have:=dw.1 hO k (eh.2 hk);simp only[fv,beq_iff_eq,c0,decide_eq_true_eq,List.contains_iff_mem]at this;rcases this with(h1|h1)|h1
  ·exact(ii h1).elim
  ·exact .inl h1
  ·exact .inr h1
 have te:oc.op.operands.toList=f::args.toList:=by
  rw[jy];simp[Op.operands,Call.operands]
 -- the results behind the call
 have hR2:∃R2:List DR,R2.length=((l.take m).drop (jc+1)).length∧(∀r',r'∈R2→∃rd,r'.k=.quiet rd)∧(∀(j:Nat) (r':DR),R2[j]?=some r'→∃o,((l.take m).drop (jc+1))[j]?=some o∧r'.dst=o.dst) ∧
   (ok→pd h2∧(∀(j:Nat) (o:Oper),((l.take m).drop (jc+1))[j]?=some o→uy P E.N (((l.take m).take jc).map (·.dst)++[oc.dst]++(((l.take m).drop (jc+1)).take j).map (·.dst)) o (ja ((⟨oc.dst,r,.quiet none⟩:DR).next ⟨(ja e R1).t,h2⟩) (R2.take j)) (fun r'=>R2[j]?=some r')) ∧
    qnz P E.N Q ((l.take m).map (·.dst)) (l.drop m) ⟨(ja ((⟨oc.dst,r,.quiet none⟩:DR).next ⟨(ja e R1).t,h2⟩) R2).t,h2⟩):=by
  by_cases hk:ok
  ·obtain⟨h3,h4⟩:=hKA hk;obtain⟨R2,g1,g2,g3⟩:=qxf (xad h4);obtain⟨g4,g5⟩:=g3;rw[List.all_append,List.all_append,c0,c0]at g4;refine⟨R2,g1,xdz.1 g4.2,fun j r' hj=>?_,fun _=>⟨h3,g2,?_⟩⟩
   ·have ib:j<((l.take m).drop (jc+1)).length:=by rw[←g1];exact(cq.1 hj).1
    obtain⟨_,r'',k1,k2,_⟩:=qxp (g2 j _ (da ib));rw[hj]at k2;cases k2;exact⟨_,da ib,k1⟩
   ·have e1:((l.take m).take jc).map (·.dst)++oc.dst::((l.take m).drop (jc+1)).map (·.dst)=(l.take m).map (·.dst):=by
     have h5:=qlh jc (l.take m);rw[hd]at h5
     conv=>rhs;rw[←h5]
     rw[dz,c8]
    rw[e1]at g5;exact g5
  ·refine⟨((l.take m).drop (jc+1)).map fun o=>⟨o.dst,.top,.quiet none⟩,ae,fun r' hr=>?_,fun j r' hj=>?_,fun h=>(hk h).elim⟩
   ·rw[dk]at hr;obtain⟨o,_,rfl⟩:=hr;exact⟨none,rfl⟩
   ·rw[dq,dn]at hj;obtain⟨o,h1,rfl⟩:=hj;exact⟨o,h1,rfl⟩
 obtain⟨R2,hl2,hq2,hd2,qy6⟩:=hR2;generalize hrc:(⟨oc.dst,r,.quiet none⟩:DR)=rc at qy6;have qx6:∀k,k<jc→(R1++rc::R2)[k]?=R1[k]?:=fun k hk=>cu aa;have xam:(R1++rc::R2)[jc]?=some rc:=by rw[cy aa,hR1,ff];rfl
 have xan:∀k,jc<k→(R1++rc::R2)[k]?=R2[k - (jc+1)]?:=fun k hk=>by
  rw[cy aa,hR1,show k - jc=(k - (jc+1))+1 by omega,qk9]
 have qxq:∀k,k≤jc→(R1++rc::R2).take k=R1.take k:=fun k hk=>by rw[qlx aa]
 have xg4:∀k,jc<k→(R1++rc::R2).take k=R1++rc::R2.take (k - (jc+1)):=fun k hk=>by
  rw[List.take_append,fo aa,hR1,show k - jc=(k - (jc+1))+1 by omega,qlc]
 have hqR:∀r',r'∈R1++rc::R2→∃rd,r'.k=.quiet rd:=fun r' hr=>by
  rcases dt.1 hr with hr|hr
  ·exact hq1 r' qf0
  ·rcases cw.1 hr with rfl|hr
   ·rw[←hrc];exact⟨none,rfl⟩
   ·exact hq2 r' hr
 have qxs:∀k,jc<k→((l.take m).drop (jc+1))[k - (jc+1)]?=(l.take m)[k]?:=fun k hk=>by
  rw[ez,show jc+1+(k - (jc+1))=k by omega]
 have dW:DRegW (l.take m) (R1++rc::R2):=by
  refine⟨jm,by simp[hR1,hl2];omega,fun {k r'} hr=>?_,fun k s r' r'' i off cs _ _ hs hk=>?_⟩
  ·have ib:k<m:=by have:=(cq.1 hr).1;simp[hR1,hl2]at this;omega
   obtain⟨rd,hk⟩:=hqR r' (c7 hr);have iz:(∃i off cs,r'.k=.store i off cs)→∀o:Oper,qtm o.op=true:=by
    rintro⟨i,off,cs,h⟩;rw[hk]at h;cases h
   rcases qmc k jc with h1|h1|h1
   ·rw[qx6 k h1]at hr;have qt1:k<(l.take m).length:=aa;obtain⟨_,r'',k1,k2,_⟩:=qxp (u0 k _ h1 (da qt1));rw[hr]at k2;cases k2;exact⟨_,da qt1,k1,fun h=>iz h _⟩
   ·subst h1;rw[xam]at hr;cases hr;exact⟨oc,hoc',by rw[←hrc],fun h=>iz h _⟩
   ·rw[xan k h1]at hr;obtain⟨o,k1,k2⟩:=hd2 _ _ hr;rw[qxs k h1]at k1;exact⟨o,k1,k2,fun h=>iz h _⟩
  ·obtain⟨rd,h1⟩:=hqR r'' (c7 hs);rw[h1]at hk;cases hk
 have d:DRegK P E (l.take m) e (R1++rc::R2) jc h2 ok Q:=by
  refine⟨dW,aa,hqR,fun k o ho ii iz=>?_,fun hk k o ho ii iz=>?_,fun o ho=>?_⟩
  ·have ib:k<m:=by have:=(cq.1 ho).1;omega
   rcases qon k ib ii with⟨h1,_⟩|⟨_,h1⟩
   ·rw[qxq k aa,qx6 k h1];exact u0 k o h1 ho
   ·rw[h1]at iz;cases iz
  ·have ib:k<m:=by have:=(cq.1 ho).1;omega
   obtain⟨g1,g2,_⟩:=qy6 hk;rcases qon k ib ii with⟨h1,h3|h3⟩|⟨h1,_⟩
   ·rw[h3]at iz;cases iz
   ·have:=(hp h2 g1).2 k o h1 (by rwa [db]) ho;rw[qxq k aa,qx6 k h1,(qdk (R:=R1.take k) (fun r' hr=>hq1 r' (by simpa using gc hr)) e h2).1];exact this
   ·have:=g2 (k - (jc+1)) o (by rw[qxs k h1];exact ho);have e1:((l.take m).take jc).map (·.dst)++[oc.dst]++(((l.take m).drop (jc+1)).take (k - (jc+1))).map (·.dst)=((l.take m).take k).map (·.dst):=by
     rw[show(l.take m).take k=(l.take m).take (jc+(1+(k - (jc+1))))by congr 1;omega,List.take_add,hd,dz,Nat.add_comm 1,qlc];simp
    rw[e1]at this;rw[xg4 k h1,xan k h1];have e2:ja ⟨e.t,h2⟩ (R1++rc::R2.take (k - (jc+1)))=ja (rc.next ⟨(ja e R1).t,h2⟩) (R2.take (k - (jc+1))):=by
     have:∀(A B:List DR) (x:Env),ja x (A++B)=ja (ja x A) B:=by
      intro A
      induction A with
      |nil=>intro B x;rfl
      |cons a A ih=>intro B x;exact ih B _
     rw[this,(qdk (R:=R1) (fun r' hr=>hq1 r' qf0) e h2).1];rfl
    rw[e2];exact this
  ·rw[hoc']at ho;cases ho;refine⟨r,hg,qq7,by rw[xam,←hrc],?_⟩;rw[qxq jc (ct _),fo aa];show qpf P (qo3 (ja e R1) oc) oc.op _ _;have hh:=(qdk (R:=R1) (fun r' hr=>hq1 r' qf0) e e.h).2;have oo:∀x,x∈f::args.toList→(qo3 (ja e R1) oc).getS x=(ja e R1).getS x:=fun x hx=>by
    unfold Env.getS;rw[xg2 (by rw[te];exact hx)]
   have hmap:args.toList.map (qo3 (ja e R1) oc).getS=args.toList.map (ja e R1).getS:=qmd fun x hx=>oo x bt;have xd6:=xip (o:=oc) (fun x hx=>by rw[te];exact hx) ix;rw[jy];refine⟨xd6,?_⟩;rw[oo f ae,hf,hmap];exact hc
 refine xvv m jc hm sp hT d fun hk=>?_;obtain⟨_,_,g3⟩:=qy6 hk;have:∀(A B:List DR) (x:Env),ja x (A++B)=ja (ja x A) B:=by
  intro A
  induction A with
  |nil=>intro B x;rfl
  |cons a A ih=>intro B x;exact ih B _
 have e3:(ja e (R1++rc::R2)).t=(ja (rc.next ⟨(ja e R1).t,h2⟩) R2).t:=by
  rw[this];show(ja (rc.next (ja e R1)) R2).t=_;have q:=xj8 (r:=rc) (by rw[←hrc];exact⟨none,rfl⟩) (ja e R1) h2;rw[q.1,(qdk hq2 (rc.next (ja e R1)) h2).1]
 rw[e3];exact g3
end
attribute [go_sem] qyh xhq xj6 DR.isQ
theorem jfm{P:Program}{T:TypeId}{s x:AV}{h:gz}{K:AV→gz→Prop}(hK:qtq P T s x h K):∃r h2,qtq P T s x h (fun r1 h1=>True∧r1=r∧h1=h2)∧K r h2:=by
 unfold qtq at hK;split at hK
 rotate_left
 ·exact hK.elim
 rename_i h1 h2;obtain⟨g1,g2,g3,g4,g5,hK⟩:=hK;split at hK
 ·refine⟨_,_,?_,hK.2⟩;unfold qtq;simp only[h1,h2];exact⟨g1,g2,g3,g4,g5,hK.1,trivial,trivial,trivial⟩
 ·split at hK
  ·rename_i h3;obtain⟨k1,k2,k3,k4,k5⟩:=hK;refine⟨_,_,?_,k5⟩;unfold qtq;simp only[h1,h2,h3];exact⟨g1,g2,g3,g4,g5,k1,k2,k3,k4,trivial,trivial,trivial⟩
  ·rename_i h3;obtain⟨k1,k2,k3,k4,k5⟩:=hK;refine⟨_,_,?_,k5⟩;unfold qtq;simp only[h1,h2,h3];exact⟨g1,g2,g3,g4,g5,k1,k2,k3,k4,trivial,trivial,trivial⟩
  ·exact hK.elim
 ·exact hK.elim
theorem jnr{P:Program}{T:TypeId}{s x:AV}{h:gz}{K:AV→gz→Prop}(hK:qvx P T s x h K):∃r h2,qvx P T s x h (fun r1 h1=>True∧r1=r∧h1=h2)∧K r h2:=by
 unfold qvx at hK⊢;split at hK
 ·split at hK
  ·rename_i h1;split at hK
   ·rename_i h3;obtain⟨k1,k2,k3,k4,k5,k6,k7,k8,k9,k10⟩:=hK;refine⟨_,_,?_,k10⟩;simp only[h1,h3];exact⟨k1,k2,k3,k4,k5,k6,k7,k8,k9,ae⟩
   ·exact hK.elim
  ·exact hK.elim
 ·exact jfm hK
section
variable {P:Program} {E:Ent}
def xjp(P:Program)(N:Nat)(Q:AExit→Env→Prop)(tl:List Oper)(ds:List (Option Tmp))(l:List Oper)(e:Env)(iu:List DR)(pd:gz→Prop):Prop :=
 match l with
 | []=>False
 |o::l =>
  match o.op with
  | .call { callee:=.builtin .append,args,argTypes } =>
   o.guard=none∧yw N o.dst∧iu.all DR.isQ=true∧l6 e true args.toList∧match args.toList,argTypes.toList with
   | [x,y],[T,T']=>T'=T∧qvx P T (e.getS x) (e.getS y) e.h
     (fun r h2=>pd h2∧qwe P N (ds++[o.dst]) l ((⟨o.dst,r,.quiet none⟩:DR).next ⟨e.t,h2⟩) (iu++[⟨o.dst,r,.quiet none⟩]) fun R e1=>R.all DR.isQ=true∧qnz P N Q (ds++o.dst::l.map (·.dst)) tl ⟨e1.t,h2⟩)
   |_,_=>False
  |_=>False
theorem xc1{id:Nat}(m jc:Nat)(u:List Nat){l:List Oper}{Q:AExit→Env→Prop}{e:Env}(hm:P.follows .mixedOrders=true)(hB:xfz m jc u l=true)
  (h:qyh P E.N u (xjp P E.N Q (l.drop m)) jc 0 [] (l.take m) e [] fun _=>True):AWp P E (.region id l.toArray true) Q e:=by
 simp only[xfz,c0,decide_eq_true_eq]at hB;obtain⟨⟨⟨⟨sp,hjm⟩,hdB⟩,hT⟩,hO⟩:=hB;have jm:=xbi hdB;obtain⟨R1,pd,hR1,hn,u0,hK,hp⟩:=xix h;simp only[ej]at u0 hK hp;have jr:(l.take m).length=m:=am;have hd:(l.take m).drop jc=(l.take m)[jc]'aa::(l.take m).drop (jc+1):=ql1 aa;generalize hoc:(l.take m)[jc]'aa=oc at hd;have hoc':(l.take m)[jc]?=some oc:=by rw[←hoc];exact da _
 rw[hd]at hK;simp only[xjp]at hK;split at hK
 rotate_left
 ·exact hK.elim
 rename_i args ats jy;obtain⟨hg,qq7,hQ1,ix,hK⟩:=hK;have hq1:=xdz.1 hQ1;split at hK
 rotate_left
 ·exact hK.elim
 rename_i x y T T' hx hT';obtain⟨hTT,hK⟩:=hK;obtain⟨r,h2,hc,hKA'⟩:=jnr hK;have hKA:=fun (_:True)=>hKA';have qon:∀k,k<m→k≠jc→(k<jc∧(sf (Region.before (l.take m).toArray) k jc=true∨k∈u))∨(jc<k∧sf (Region.before (l.take m).toArray) jc k=true):=fun k hk ii=>by
  have:=dw.1 hO k (eh.2 hk);simp only[fv,beq_iff_eq,c0,decide_eq_true_eq,List.contains_iff_mem]at this;rcases this with(h1|h1)|h1
  ·exact(ii h1).elim
  ·exact .inl h1
  ·exact .inr h1
 have te:oc.op.operands.toList=args.toList:=by
  rw[jy];simp[Op.operands,Call.operands]
 -- the results behind the call
 have hR2:∃R2:List DR,R2.length=((l.take m).drop (jc+1)).length∧(∀r',r'∈R2→∃rd,r'.k=.quiet rd)∧(∀(j:Nat) (r':DR),R2[j]?=some r'→∃o,((l.take m).drop (jc+1))[j]?=some o∧r'.dst=o.dst) ∧
   (True→pd h2∧(∀(j:Nat) (o:Oper),((l.take m).drop (jc+1))[j]?=some o→uy P E.N (((l.take m).take jc).map (·.dst)++[oc.dst]++(((l.take m).drop (jc+1)).take j).map (·.dst)) o (ja ((⟨oc.dst,r,.quiet none⟩:DR).next ⟨(ja e R1).t,h2⟩) (R2.take j)) (fun r'=>R2[j]?=some r')) ∧
    qnz P E.N Q ((l.take m).map (·.dst)) (l.drop m) ⟨(ja ((⟨oc.dst,r,.quiet none⟩:DR).next ⟨(ja e R1).t,h2⟩) R2).t,h2⟩):=by
  by_cases hk:True
  ·obtain⟨h3,h4⟩:=hKA hk;obtain⟨R2,g1,g2,g3⟩:=qxf (xad h4);obtain⟨g4,g5⟩:=g3;rw[List.all_append,List.all_append,c0,c0]at g4;refine⟨R2,g1,xdz.1 g4.2,fun j r' hj=>?_,fun _=>⟨h3,g2,?_⟩⟩
   ·have ib:j<((l.take m).drop (jc+1)).length:=by rw[←g1];exact(cq.1 hj).1
    obtain⟨_,r'',k1,k2,_⟩:=qxp (g2 j _ (da ib));rw[hj]at k2;cases k2;exact⟨_,da ib,k1⟩
   ·have e1:((l.take m).take jc).map (·.dst)++oc.dst::((l.take m).drop (jc+1)).map (·.dst)=(l.take m).map (·.dst):=by
     have h5:=qlh jc (l.take m);rw[hd]at h5
     conv=>rhs;rw[←h5]
     rw[dz,c8]
    rw[e1]at g5;exact g5
  ·refine⟨((l.take m).drop (jc+1)).map fun o=>⟨o.dst,.top,.quiet none⟩,ae,fun r' hr=>?_,fun j r' hj=>?_,fun h=>(hk h).elim⟩
   ·rw[dk]at hr;obtain⟨o,_,rfl⟩:=hr;exact⟨none,rfl⟩
   ·rw[dq,dn]at hj;obtain⟨o,h1,rfl⟩:=hj;exact⟨o,h1,rfl⟩
 obtain⟨R2,hl2,hq2,hd2,qy6⟩:=hR2;generalize hrc:(⟨oc.dst,r,.quiet none⟩:DR)=rc at qy6;have qx6:∀k,k<jc→(R1++rc::R2)[k]?=R1[k]?:=fun k hk=>cu aa;have xam:(R1++rc::R2)[jc]?=some rc:=by rw[cy aa,hR1,ff];rfl
 have xan:∀k,jc<k→(R1++rc::R2)[k]?=R2[k - (jc+1)]?:=fun k hk=>by
  rw[cy aa,hR1,show k - jc=(k - (jc+1))+1 by omega,qk9]
 have qxq:∀k,k≤jc→(R1++rc::R2).take k=R1.take k:=fun k hk=>by rw[qlx aa]
 have xg4:∀k,jc<k→(R1++rc::R2).take k=R1++rc::R2.take (k - (jc+1)):=fun k hk=>by
  rw[List.take_append,fo aa,hR1,show k - jc=(k - (jc+1))+1 by omega,qlc]
 have hqR:∀r',r'∈R1++rc::R2→∃rd,r'.k=.quiet rd:=fun r' hr=>by
  rcases dt.1 hr with hr|hr
  ·exact hq1 r' qf0
  ·rcases cw.1 hr with rfl|hr
   ·rw[←hrc];exact⟨none,rfl⟩
   ·exact hq2 r' hr
 have qxs:∀k,jc<k→((l.take m).drop (jc+1))[k - (jc+1)]?=(l.take m)[k]?:=fun k hk=>by
  rw[ez,show jc+1+(k - (jc+1))=k by omega]
 have dW:DRegW (l.take m) (R1++rc::R2):=by
  refine⟨jm,by simp[hR1,hl2];omega,fun {k r'} hr=>?_,fun k s r' r'' i off cs _ _ hs hk=>?_⟩
  ·have ib:k<m:=by have:=(cq.1 hr).1;simp[hR1,hl2]at this;omega
   obtain⟨rd,hk⟩:=hqR r' (c7 hr);have iz:(∃i off cs,r'.k=.store i off cs)→∀o:Oper,qtm o.op=true:=by
    rintro⟨i,off,cs,h⟩;rw[hk]at h;cases h
   rcases qmc k jc with h1|h1|h1
   ·rw[qx6 k h1]at hr;have qt1:k<(l.take m).length:=aa;obtain⟨_,r'',k1,k2,_⟩:=qxp (u0 k _ h1 (da qt1));rw[hr]at k2;cases k2;exact⟨_,da qt1,k1,fun h=>iz h _⟩
   ·subst h1;rw[xam]at hr;cases hr;exact⟨oc,hoc',by rw[←hrc],fun h=>iz h _⟩
   ·rw[xan k h1]at hr;obtain⟨o,k1,k2⟩:=hd2 _ _ hr;rw[qxs k h1]at k1;exact⟨o,k1,k2,fun h=>iz h _⟩
  ·obtain⟨rd,h1⟩:=hqR r'' (c7 hs);rw[h1]at hk;cases hk
 have d:DRegK P E (l.take m) e (R1++rc::R2) jc h2 True Q:=by
  refine⟨dW,aa,hqR,fun k o ho ii iz=>?_,fun hk k o ho ii iz=>?_,fun o ho=>?_⟩
  ·have ib:k<m:=by have:=(cq.1 ho).1;omega
   rcases qon k ib ii with⟨h1,_⟩|⟨_,h1⟩
   ·rw[qxq k aa,qx6 k h1];exact u0 k o h1 ho
   ·rw[h1]at iz;cases iz
  ·have ib:k<m:=by have:=(cq.1 ho).1;omega
   obtain⟨g1,g2,_⟩:=qy6 hk;rcases qon k ib ii with⟨h1,h3|h3⟩|⟨h1,_⟩
   ·rw[h3]at iz;cases iz
   ·have:=(hp h2 g1).2 k o h1 (by rwa [db]) ho;rw[qxq k aa,qx6 k h1,(qdk (R:=R1.take k) (fun r' hr=>hq1 r' (by simpa using gc hr)) e h2).1];exact this
   ·have:=g2 (k - (jc+1)) o (by rw[qxs k h1];exact ho);have e1:((l.take m).take jc).map (·.dst)++[oc.dst]++(((l.take m).drop (jc+1)).take (k - (jc+1))).map (·.dst)=((l.take m).take k).map (·.dst):=by
     rw[show(l.take m).take k=(l.take m).take (jc+(1+(k - (jc+1))))by congr 1;omega,List.take_add,hd,dz,Nat.add_comm 1,qlc];simp
    rw[e1]at this;rw[xg4 k h1,xan k h1];have e2:ja ⟨e.t,h2⟩ (R1++rc::R2.take (k - (jc+1)))=ja (rc.next ⟨(ja e R1).t,h2⟩) (R2.take (k - (jc+1))):=by
     have:∀(A B:List DR) (x:Env),ja x (A++B)=ja (ja x A) B:=by
      intro A
      induction A with
      |nil=>intro B x;rfl
      |cons a A ih=>intro B x;exact ih B _
     rw[this,(qdk (R:=R1) (fun r' hr=>hq1 r' qf0) e h2).1];rfl
    rw[e2];exact this
  ·rw[hoc']at ho;cases ho;refine⟨r,hg,qq7,by rw[xam,←hrc],?_⟩;rw[qxq jc (ct _),fo aa];show qpf P (qo3 (ja e R1) oc) oc.op _ _;have hh:=(qdk (R:=R1) (fun r' hr=>hq1 r' qf0) e e.h).2;have oo:∀z,z∈args.toList→(qo3 (ja e R1) oc).getS z=(ja e R1).getS z:=fun z hz=>by
    unfold Env.getS;rw[xg2 (by rw[te];exact hz)]
   have xd6:=xip (o:=oc) (fun z hz=>by rw[te];exact hz) ix;rw[jy];simp only[qpf,hx,hT'];rw[hx]at xd6 oo;refine⟨xd6,hTT,?_⟩;rw[oo x ae,oo y ae];exact hc
 refine xvv m jc hm sp hT d fun hk=>?_;obtain⟨_,_,g3⟩:=qy6 hk;have:∀(A B:List DR) (x:Env),ja x (A++B)=ja (ja x A) B:=by
  intro A
  induction A with
  |nil=>intro B x;rfl
  |cons a A ih=>intro B x;exact ih B _
 have e3:(ja e (R1++rc::R2)).t=(ja (rc.next ⟨(ja e R1).t,h2⟩) R2).t:=by
  rw[this];show(ja (rc.next (ja e R1)) R2).t=_;have q:=xj8 (r:=rc) (by rw[←hrc];exact⟨none,rfl⟩) (ja e R1) h2;rw[q.1,(qdk hq2 (rc.next (ja e R1)) h2).1]
 rw[e3];exact g3
end
attribute [go_sem] xjp
end Go.Abs
