/- Part 15 of a proof. -/
import Derived.Shelf.Spec.SlicesInsertGrow
import Derived.Laws.MakeOwn
import Derived.Test.YtbimdamecieomaaGreatDoorR12
set_option linter.all false
namespace Go.Abs
def xab:AV→Bool
 | .val _=>true
 | .tuple xs=>xs.all fun| .val _=>true|_=>false
 | .agg xs=>xs.all fun| .val _=>true|_=>false
 |_=>false
theorem xg8{c c':Ctx}{x:AV}{v:Value}(hf:xab x=true)(h:Rel c x v):Rel c' x v:=by
 cases x with
 |val u =>
  have:v=u:=h.val_inv;subst this;exact .val _ (qsm h)
 |tuple xs =>
  cases h with
  |data h=>cases h
  |tuple _ vs hl h =>
   refine .tuple xs vs hl fun j x v hx hv=>?_;have h1:=h j x v hx hv;have h2:=dw.1 hf x (c7 hx);cases x with
   |val u =>
    have:v=u:=h1.val_inv;subst this;exact .val _ (qsm h1)
   |_=>cases h2
 |agg xs =>
  cases h with
  |data h=>cases h
  |agg _ vs hl ho h =>
   refine .agg xs vs hl ho fun j x v hx hv=>?_;have h1:=h j x v hx hv;have h2:=dw.1 hf x (c7 hx);cases x with
   |val u =>
    have:v=u:=h1.val_inv;subst this;exact .val _ (qsm h1)
   |_=>cases h2
 |_=>simp[xab]at hf
def qq8(h:gz):AV→AV
 | .nils=>.slice []
 | .slice r=>.slice r
 | .val v=>.val v
 | .own i n=>match h[i]? with
  |some (.arr _ _ rows)=>if rows.length=n then .slice rows else .top
  |some (.uarr _ _ rows)=>if rows.length=n then .slice rows else .top
  |_=>.top
 |_=>.top
section
variable {P:Program} {E:Ent}
def qp9(w:World):Ctx:=⟨fun b j=>w.cell? ⟨b,j,none⟩,fun _=>none,fun _ _=>none⟩
theorem xuf(w:World):HSim (qp9 w) [] w :=
 ⟨fun _ _ _ h=>h,fun _ _=>⟨rfl,fun _=>rfl⟩,fun i o hi=>by simp at hi,fun i j o o' b hi=>by simp at hi,fun i o b j v hi=>by simp at hi⟩
theorem xi7{w:World}{c:Ctx}{e sz:Nat}{rows:List (List AV)}{v:Value}{vs:List Value}(hD:∀b j v,c.D b j=some v→w.cell? ⟨b,j,none⟩=some v)(h2:w.ownsRow 0 e sz v rows.length vs)(h3:rows.length≤68719476736)(h4:∀r,r∈rows→r.length=sz)
  (h5:∀(i' j:Nat) (r:List AV) (x:AV),rows[i']?=some r→r[j]?=some x→∃u,vs[i' * sz+j]?=some u∧DRel c.D x u):DRel (qp9 w).D (.slice rows) v:=by
 rcases h2.2 with⟨rfl,hn⟩|⟨g,cap,cur,rfl,hg,hh,nz,pz,ma,u5⟩
 ·have:rows=[]:=fk hn;subst this;exact .nil
 ·have mw:∀(i' j:Nat) (r:List AV) (x:AV),rows[i']?=some r→r[j]?=some x→∃u,vs[i' * sz+j]?=some u∧DRel c.D x u∧(qp9 w).D g (0+i' * sz+j)=some u:=by
   intro i' j r x hr hx;obtain⟨u,hu,hd⟩:=h5 i' j r x hr hx;refine⟨u,hu,hd,?_⟩;have:=h2.cells (g:=g) rfl _ u hu;rw[xk,db]at this;rw[db];exact this
  exact .slice rows g 0 cap sz (fun i' j=>(vs[i' * sz+j]?).getD undef) h4 h3 nz (fun i' j r x hr hx=>by
   obtain⟨u,hu,hd,o6⟩:=mw i' j r x hr hx;rw[hu];exact o6) fun i' j r x hr hx=>by
   obtain⟨u,hu,hd,o6⟩:=mw i' j r x hr hx;rw[hu];exact hd.mono hD
theorem xlu{c:Ctx}{h:gz}{w:World}(s:HSim c h w){x:AV}{v:Value}(hr:Rel c x v):Rel (qp9 w) (qq8 h x) v:=by
 have hD:∀b j v,c.D b j=some v→(qp9 w).D b j=some v:=s.data;cases x with
 |nils =>
  cases hr with
  |data h=>cases h
  |nils=>exact .data .nil
 |slice r=>exact .data ((Rel.slice_inv hr).mono hD)
 |val u =>
  have:v=u:=hr.val_inv;subst this;exact .val _ (qsm hr)
 |own i n =>
  cases hr with
  |data h=>cases h
  |own _ _ _ hv ho =>
   simp only[qq8];split
   ·rename_i e sz rows hi;split
    ·rename_i hn;subst hn;obtain⟨v',vs,h1,_,_,h2,h3,h4,h5,_⟩:=s.obj i _ hi;rw[hv]at h1;cases h1;exact .data (xi7 s.data h2 h3 h4 h5)
    ·exact .top _
   ·rename_i e sz rows hi;split
    ·rename_i hn;subst hn;obtain⟨v',vs,h1,_,_,h2,h3,h4,h5⟩:=s.obj i _ hi;rw[hv]at h1;cases h1;exact .data (xi7 s.data h2 h3 h4 h5)
    ·exact .top _
   ·exact .top _
 |_=>exact .top _
theorem jho{c:Ctx}{e:Env}{a:Act}{w:World}(s:Sim E.N c e a w)(k:E.ok c e.h w){o:Oper}{f:Operand}{args:Array Operand}{ts:Array TypeId}(ho:o.op=.call { callee:=.value f,args:=args,argTypes:=ts })
  (ix:l6 e true (f::args.toList)) {fid:FuncId} (hf:e.getS f=.fn (.func fid) [] []) {x:AV} (hP:APure P fid (args.toList.map fun y=>qq8 e.h (e.getS y)) x) (hx:xab x=true) {next:Act→World→Prop} {Q:Exit→Act→World→Prop}
  (vt:∀w' u,HSim c e.h w'→E.ok c e.h w'→Rel c x u→next (a.put o.dst u) w'):o.wp P a w next Q:=by
 have jz:=qx s ix;have xd:=jz f ae;rw[hf]at xd;have hev:a.eval f=.func (.func fid) #[] #[]:=by
  generalize a.eval f=z at xd;cases xd with
  |data h=>cases h
  |fn f ys xs us vs pf hl h' h =>
   have h1:us = #[]:=qml pf;have h2:vs = #[]:=qml hl;rw[h1,h2]
 have qrh:RelL (qp9 w) (args.toList.map fun y=>qq8 e.h (e.getS y)) (args.map a.eval):=by
  refine⟨ae,fun j y v hy hv=>?_⟩;simp only[dq,dn]at hy;obtain⟨z,hz,rfl⟩:=hy;simp only[gv,dn]at hv;obtain⟨z',hz',rfl⟩:=hv;have:z'=z:=by
   rw[←fc,hz]at hz';exact(gh hz').symm
  subst this;exact xlu s.hs (jz z' (by simp[c7 hz]))
 have hA:=hP [];unfold Oper.wp;rw[qxz ho hev hA.1];simp only[qma,qmm];refine(hA.2 (qp9 w) w _ (xuf w) qrh).mono ?_;rintro en w' ⟨r,h',c',⟨rfl,rfl⟩,hE,jd,kb⟩;have zc:∀b,b<w.heap.size→w'.heap[b]?=w.heap[b]?:=fun b hb=>kb.frame b hb fun i o hi=>by simp at hi
 cases en with
 |returned u =>
  have wz:Rel c' x u:=hE;refine vt w' u (s.hs.ext zc (.refl c) (fun _ _=>rfl) (fun _ _ _ h=>.inl h) s.hs.dom) (k.ext' s.hs zc (.refl c) (fun _=>rfl) kb.os kb.tape kb.output kb.size fun _ _ _ h=>.inl h) (xg8 hx wz)
 |_=>simp[EndR]at hE
def xh7(P:Program)(N:Nat)(o:Oper)(e:Env)(K:Env→Prop):Prop :=
 o.guard=none∧yw N o.dst∧match o.op with
  | .call { callee:=.value f,args,.. }=>l6 e true (f::args.toList)∧match e.getS f with
   | .fn (.func fid) [] []=>∃x,APure P fid (args.toList.map fun y=>qq8 e.h (e.getS y)) x∧xab x=true∧K (e.put o.dst x)
   |_=>False
  |_=>False
theorem xvq{Q:AExit→Env→Prop}{ops:Array Oper}{o:Oper}{l2:List Oper}:∀(l1 done:List Oper) (e:Env),ops.toList=done++(l1++o::l2) →
  qpm P E.N (fun x e1=>match x with
   | .normal=>xh7 P E.N o e1 fun e2=>qpm P E.N Q ((done++l1++[o]).map (·.dst)) l2 e2
   |x=>Q x e1) (done.map (·.dst)) l1 e→qrb P E ops (l1++o::l2) Q e
 | [],done,e,te,h=>by
  intro c a w s k;simp only[qpm]at h;obtain⟨hg,hd,h⟩:=h;simp only[ej];refine qcs (G:=true) (by simp[Region.wanted,hg]) (fun _=>?_) (fun h=>by cases h);split at h
  ·rename_i f args ts jy;obtain⟨ix,h⟩:=h;split at h
   ·rename_i fid hf;obtain⟨x,hP,hx,hK⟩:=h;refine jho s k jy ix hf hP hx fun w' u jd kb hr=>?_;exact xf l2 (done++[]++[o]) _ (by simpa using te) hK c _ w' (s.put (.refl c) jd (qxy hd) hr) (by cases o.dst<;>exact kb)
   ·exact h.elim
  ·exact h.elim
 |p::l1,done,e,te,h=>by
  have ih:=fun e'=>xvq (Q:=Q) (ops:=ops) (o:=o) (l2:=l2) l1 (done++[p]) e' qjr;simp only[dz,c8,e6,dr,qlg,ej]at ih;intro c a w s k;simp only[qpm]at h;refine xku h (fun G hG=>qx8 te s hG) s k (fun v e' c' a' w' u hq hr hs hk=>⟨.panic v,e',c',hq,hr,hs,hk⟩) fun e' c' a' w' hK s' k'=>?_;exact ih e' (by simpa using hK) c' a' w' s' k'
theorem xif{Q:AExit→Env→Prop}{ops:Array Oper}{l2:List Oper}:∀(l1 done:List Oper) (e:Env),ops.toList=done++(l1++l2) →
  qpm P E.N (fun x e1=>match x with
   | .normal=>qrb P E ops l2 Q e1
   |x=>Q x e1) (done.map (·.dst)) l1 e→qrb P E ops (l1++l2) Q e
 | [],done,e,te,h=>h
 |p::l1,done,e,te,h=>by
  have ih:=fun e'=>xif (Q:=Q) (ops:=ops) (l2:=l2) l1 (done++[p]) e' qjr;simp only[dz,c8,e6]at ih;intro c a w s k;simp only[qpm]at h;refine xku h (fun G hG=>qx8 te s hG) s k (fun v e' c' a' w' u hq hr hs hk=>⟨.panic v,e',c',hq,hr,hs,hk⟩) fun e' c' a' w' hK s' k'=>?_;exact ih e' hK c' a' w' s' k'
theorem yf{id:Nat}{Q:AExit→Env→Prop}{e:Env}(l1 l2:List Oper) (h:qpm P E.N (fun x e1=>match x with
   | .normal=>qrb P E (l1++l2).toArray l2 Q e1
   |x=>Q x e1) [] l1 e):AWp P E (.region id (l1++l2).toArray false) Q e :=
 xfx (by
  have:=xif (Q:=Q) (ops:=(l1++l2).toArray) (l2:=l2) l1 [] e ae bh;simpa using this)
theorem xz4{id:Nat}{Q:AExit→Env→Prop}{e:Env}(l1:List Oper){o:Oper}{l2:List Oper} (h:qpm P E.N (fun x e1=>match x with
   | .normal=>xh7 P E.N o e1 fun e2=>qpm P E.N Q ((l1++[o]).map (·.dst)) l2 e2
   |x=>Q x e1) [] l1 e):AWp P E (.region id (l1++o::l2).toArray false) Q e :=
 xfx (by
  have:=xvq (Q:=Q) (ops:=(l1++o::l2).toArray) (o:=o) (l2:=l2) l1 [] e ae bh;simpa using this)
end
end Go.Abs
namespace Go.Abs
open Go.Proofs Go.Shelf
theorem qce{b:Nat}{e:TypeId}{fz:Nat×Nat}:∀(vs:List Value) (o:Nat) (w:World) (cur:Array Value),w.heap[b]?=some (.cells cur e fz)→o+vs.length≤cur.size →
  ∃qz9,(w.setCells b o vs).heap[b]?=some (.cells qz9 e fz)∧qz9.size=cur.size∧(∀j:Nat,qz9[j]?=if o≤j∧j<o+vs.length then vs[j - o]? else cur[j]?)∧(w.setCells b o vs).heap.size=w.heap.size ∧
   (w.setCells b o vs).os=w.os∧(w.setCells b o vs).tape=w.tape∧(w.setCells b o vs).output=w.output∧∀k,k≠b→(w.setCells b o vs).heap[k]?=w.heap[k]?
 | [],o,w,cur,h,_=>⟨cur,h,rfl,fun j=>by simp;intro h1 h2;omega,rfl,rfl,rfl,rfl,fun _ _=>rfl⟩
 |v::vs,o,w,cur,h,hl=>by
  simp only[d5]at hl;have hb:b<w.heap.size:=(f0.1 h).1;have hv:w.heap[b]=.cells cur e fz:=(f0.1 h).2;have h1:(w.setCell ⟨b,o,none⟩ v).heap[b]?=some (.cells (cur.setIfInBounds o v) e fz):=by
   unfold World.setCell;rw[fm (by simpa using hb),Array.getElem_modify];simp[hv]
  obtain⟨qz9,g1,g2,g3,g4,g5,g6,g7,g8⟩:=qce vs (o+1) (w.setCell ⟨b,o,none⟩ v) (cur.setIfInBounds o v) h1 am;refine⟨qz9,g1,by rw[g2];simp,fun j=>?_,by rw[World.setCells,g4];simp,g5,g6,g7,fun k hk=>?_⟩
  ·rw[g3 j];simp only[d5];by_cases hj:j=o
   ·subst hj;rw[if_neg aa,if_pos aa,ff];have ib:j<cur.size:=aa;simp[ib]
   ·rw[gt aa];by_cases h2:o+1≤j∧j<o+1+vs.length
    ·rw[if_pos h2,if_pos aa,show j - o=(j - (o+1))+1 by omega];rfl
    ·rw[if_neg h2,if_neg aa]
  ·rw[World.setCells,g8 k hk];unfold World.setCell;simp[Array.getElem?_modify,Ne.symm hk]
structure InsPost(w w':World)(v v':Value)(e:TypeId)(n:Nat)(us:List Value):Prop where
 one:v'.oneCell'=true
 own:w'.ownsRow 0 e 1 v' n us
 os:w'.os=w.os
 tape:w'.tape=w.tape
 output:w'.output=w.output
 size:w.heap.size≤w'.heap.size
 two:(∃g,v.ownBlock=some g∧v'.ownBlock=some g∧∀k,k≠g→w'.heap[k]?=w.heap[k]?)∨(v'.ownBlock=some w.heap.size∧∀k,k<w.heap.size→w'.heap[k]?=w.heap[k]?)
theorem jhn(z:Array Value)(n:Nat)(hz:z.size=1):(Builtin.zeroCells z n).size=n:=by
 simp[Builtin.zeroCells,hz]
theorem jmb{P:Program}{ρ:Ren}(L:Lays2.n22 P ρ){w:World}{v:Value}{n:Nat}{cs:List Value}(mi:w.ownsRow 0 (ρ.t 9) 1 v n cs)(m7:∀u∈cs,u.oneCell'=true){pos:Nat}(hat:pos≤n)(hn:n+1≤68719476736)
  {vb vc:Nat} {kv:Value} {tA:TypeId} (hk:w.heap[vb]?=some (.cells #[kv] tA (0,0))) (hk1:kv.oneCell'=true) (ii:∀g,v.ownBlock=some g→vb≠g) :
  Calls P (ρ.f 22) #[v,.int .i64 pos,.slice (some ⟨vb,0,none⟩) 1 vc] w fun e w'=>∃v',e=.returned v'∧InsPost w w' v v' (ρ.t 9) (n+1) (cs.take pos++kv::cs.drop pos):=by
 have hkc:∀j u,[kv][j]?=some u→w.cell? ⟨vb,0+j,none⟩=some u:=fun j u hu=>by
  cases j with
  |zero=>simp at hu;subst hu;simp[World.cell?,hk]
  |succ j=>simp at hu
 have qvp:∀u∈[kv],u.oneCell'=true:=fun u hu=>by simp at hu;subst hu;exact hk1
 have hzc:∀m,(Builtin.zeroCells (Value.string ⟨#[]⟩).cells m).size=m:=fun m=>jhn _ m rfl;have vp:cs.length=n:=by have:=mi.1;omega
 have yj:pos=n→cs.take pos++kv::cs.drop pos=cs++[kv]:=fun h=>by
  subst h;rw[←vp,qly,List.drop_length]
 have oo:=grownCap_ge w (n+1);have pz:=fun old=>grownCap_le_maxLen w (n+1) old (ρ.t 9) qf9;rcases mi.2 with⟨rfl,rfl⟩|⟨g,cap,cur,rfl,_,hg,nz,qxi,ma,u5⟩
 ·
  have y7:pos=0:=aa;subst y7;have hnil:cs=[]:=fk vp;subst hnil;refine(Any2.slices_Insert_string_end_grow L none 0 0 vb 0 1 vc [] [kv] w aa (ct _) aa aa rfl rfl (fun _=>rfl) (fun a h=>by cases h) hkc qvp).mono ?_;rintro e w' ⟨rfl,rfl⟩;refine⟨_,rfl,rfl,⟨ae,.inr ⟨w.heap.size,_,_,rfl,di _,heap_alloc_new _ _,oo 0 _,pz 0,?_,ae⟩⟩,rfl,rfl,rfl,ae,.inr ⟨rfl,fun k hk=>Go.heap_alloc_old _ _ hk⟩⟩;have:=oo 0 (ρ.t 9);simp only[db]at this;simp[hzc];omega
 ·have hcc:cap≤9223372036854775807:=by simp only[maxLen]at qxi;omega
  have hvb:vb≠g:=ii g rfl;have mw:∀j u,cs[j]?=some u→w.cell? ⟨g,0+j,none⟩=some u:=fun j u hu=>by
   have:=mi.cells (g:=g) rfl j u hu
   rwa [xk]at this
  have qv4:cur.size=cap:=by rw[ma];omega
  have xea:∀j,j<cap→(w.cell? ⟨g,0+j,none⟩).isSome=true:=fun j hj=>by
   simp[World.cell?,hg];omega
  have hfz:∀j,w.frozen? ⟨g,0+j,none⟩=false:=fun j=>by simp[World.frozen?,hg]
  have xgh:∀j,j<n→cur[j]?=cs[j]?:=fun j hj=>by
   rw[←u5,dx,if_pos aa,fc]
  rcases d8 pos n with ib|hge'
  ·rcases d8 cap (n+1)with xn|xn
   ·
    refine(Any2.slices_Insert_string_grow L g 0 n cap pos vb 0 1 vc cs [kv] w ib aa nz xn aa vp rfl mw hkc m7 qvp).mono ?_;rintro e w' ⟨rfl,rfl⟩;have hg1:=oo cap (ρ.t 9);have h0:(w.alloc (.cells ((cs.take pos).toArray++Builtin.zeroCells (Value.string ⟨#[]⟩).cells (n+1 - pos)++Builtin.zeroCells (Value.string ⟨#[]⟩).cells (grownCap w (n+1) cap (ρ.t 9) - (n+1))) (ρ.t 9))).drew.heap[w.heap.size]?=some (.cells ((cs.take pos).toArray++Builtin.zeroCells (Value.string ⟨#[]⟩).cells (n+1 - pos)++Builtin.zeroCells (Value.string ⟨#[]⟩).cells (grownCap w (n+1) cap (ρ.t 9) - (n+1))) (ρ.t 9) (0,0)):=heap_alloc_new _ _;have jq:((cs.take pos).toArray++Builtin.zeroCells (Value.string ⟨#[]⟩).cells (n+1 - pos)++Builtin.zeroCells (Value.string ⟨#[]⟩).cells (grownCap w (n+1) cap (ρ.t 9) - (n+1))).size=grownCap w (n+1) cap (ρ.t 9):=by
     simp[hzc,vp];omega
    obtain⟨c1,a1,a2,a3,a4,a5,a6,a7,a8⟩:=qce [kv] pos _ _ h0 (by rw[jq];simp;omega);obtain⟨c2,b1,b2,b3,b4,b5,b6,b7,b8⟩:=qce (cs.drop pos) (pos+1) ((w.alloc (.cells ((cs.take pos).toArray++Builtin.zeroCells (Value.string ⟨#[]⟩).cells (n+1 - pos)++Builtin.zeroCells (Value.string ⟨#[]⟩).cells (grownCap w (n+1) cap (ρ.t 9) - (n+1))) (ρ.t 9))).drew.setCells w.heap.size pos [kv]).drew c1 a1 (by rw[a2,jq];simp[vp];omega);refine⟨_,rfl,rfl,⟨bw,.inr ⟨w.heap.size,_,c2,rfl,di _,b1,hg1,pz cap,by rw[b2,a2,jq];omega,?_⟩⟩,?_,?_,?_,?_,.inr ⟨rfl,fun k hk=>?_⟩⟩
    ·apply fy;intro j;rw[dx,fc,b3 j,a3 j];simp only[gd,vp,d5,ee];by_cases h1:j<pos
     ·rw[if_pos aa,if_neg aa,if_neg aa,cu bw,qlr bw,qlr bw];simp
     ·by_cases h2:j=pos
      ·subst h2;rw[if_pos aa,if_neg aa,if_pos aa,cy bw];simp[vp,gj hat]
      ·by_cases h3:j<n+1
       ·rw[if_pos aa,if_pos aa,cy bw];simp only[du,vp,gj hat];rw[show j - pos=(j - (pos+1))+1 by omega];rfl
       ·rw[if_neg aa,fa bw]
    ·rw[b5];exact a5
    ·rw[b6];exact a6
    ·rw[b7];exact a7
    ·rw[b4];show w.heap.size≤_;have:((w.alloc (.cells ((cs.take pos).toArray++Builtin.zeroCells (Value.string ⟨#[]⟩).cells (n+1 - pos)++Builtin.zeroCells (Value.string ⟨#[]⟩).cells (grownCap w (n+1) cap (ρ.t 9) - (n+1))) (ρ.t 9))).drew.setCells w.heap.size pos [kv]).drew.heap.size=w.heap.size+1:=by
      rw[World.size_drew,a4];simp
     omega
    ·rw[b8 k aa];show((w.alloc _).drew.setCells w.heap.size pos [kv]).heap[k]?=_;rw[a8 k aa];exact Go.heap_alloc_old _ _ hk
   ·
    refine(Any2.slices_Insert_string_shift L g 0 n cap pos vb 0 1 vc cs [kv] w ib aa xn hcc hvb vp rfl mw (fun j hj=>xea j aa) (fun j _=>hfz j) hkc m7 qvp tA (ρ.t 9) 1 cap (by simp[World.shape?,hk]) (by simp[World.shape?,hg,qv4]) aa qie qie).mono ?_;rintro e w' ⟨rfl,rfl⟩;obtain⟨c1,a1,a2,a3,a4,a5,a6,a7,a8⟩:=qce (cs.drop pos) (0+(pos+1)) w.drew cur hg bw;obtain⟨c2,b1,b2,b3,b4,b5,b6,b7,b8⟩:=qce [kv] (0+pos) _ c1 a1 (by rw[a2];simp;omega);refine⟨_,rfl,rfl,⟨bw,.inr ⟨g,cap,c2,rfl,di _,b1,xn,qxi,by rw[b2,a2,ma],?_⟩⟩,?_,?_,?_,?_,.inl ⟨g,rfl,rfl,fun k hk=>?_⟩⟩
    ·apply fy;intro j;rw[dx,fc,b3 j,a3 j];simp only[gd,vp,d5,ee,db];by_cases h1:j<pos
     ·rw[if_pos aa,if_neg aa,if_neg aa,cu bw,xgh j aa,dx,if_pos h1]
     ·by_cases h2:j=pos
      ·subst h2;rw[if_pos aa,if_pos aa,cy bw];simp[vp,gj hat]
      ·by_cases h3:j<n+1
       ·rw[if_pos aa,if_neg aa,if_pos aa,cy bw];simp only[du,vp,gj hat];rw[show j - pos=(j - (pos+1))+1 by omega];rfl
       ·rw[if_neg aa,fa bw]
    ·rw[b5];exact a5
    ·rw[b6];exact a6
    ·rw[b7];exact a7
    ·rw[b4,a4];exact ct _
    ·rw[b8 k hk,a8 k hk];rfl
  ·have hpn:pos=n:=aa;subst hpn;rw[yj rfl];rcases d8 cap (pos+1)with xn|xn
   ·
    refine(Any2.slices_Insert_string_end_grow L (some ⟨g,0,none⟩) pos cap vb 0 1 vc cs [kv] w aa nz xn aa vp rfl (fun h=>by cases h) (fun a h=>by cases h;exact fun j u hu=>by rw[xk];exact mw j u hu) hkc qvp).mono ?_;rintro e w' ⟨rfl,rfl⟩;have hg1:=oo cap (ρ.t 9);refine⟨_,rfl,rfl,⟨by simp[vp],.inr ⟨w.heap.size,_,_,rfl,di _,heap_alloc_new _ _,hg1,pz cap,?_,?_⟩⟩,rfl,rfl,rfl,ae,.inr ⟨rfl,fun k hk=>Go.heap_alloc_old _ _ hk⟩⟩
    ·simp[hzc,vp];omega
    ·simp[vp,List.take_append];exact fo aa
   ·
    refine(Any2.slices_Insert_string_end_room L g 0 pos cap vb 0 1 vc [kv] w aa xn hcc rfl (fun j hj=>by have:=xea (pos+j) aa;rwa [db]at this⊢) (fun j _=>by simp[World.frozen?,hg]) hkc qvp).mono ?_;rintro e w' ⟨rfl,rfl⟩;obtain⟨c1,a1,a2,a3,a4,a5,a6,a7,a8⟩:=qce [kv] (0+pos) w cur hg am;refine⟨_,rfl,rfl,⟨by simp[vp],.inr ⟨g,cap,c1,rfl,di _,a1,xn,qxi,by rw[a2,ma],?_⟩⟩,a5,a6,a7,by rw[a4];exact ct _,.inl ⟨g,rfl,rfl,a8⟩⟩;apply fy;intro j;rw[dx,fc,a3 j];simp only[d5,ee,db];by_cases h1:j<pos
    ·rw[if_pos aa,if_neg aa,cu aa,xgh j h1]
    ·by_cases h2:j=pos
     ·subst h2;rw[if_pos aa,if_pos aa,cy aa];simp[vp]
     ·rw[if_neg aa,fa bw]
section
variable {P:Program} {E:Ent}
theorem xum{T el:TypeId}(hk:ij P T=.slice el 1)(oh:ij P el≠.other)(pr:iy P el=1){v:Value}(h1:v.oneCell'=true)(w:World) :
  (Instr.buildSlice T 1 #[(0,v)]).run P w=.ok (.slice (some ⟨w.heap.size,0,none⟩) 1 1) (w.alloc (.cells #[v] el)):=by
 obtain⟨iT,dT,zT,_,r8,_,vz,_⟩:=lj hk ae;obtain⟨rfl,ie,lx,wv⟩:=xx vz;obtain⟨ie',de,ze,tp,_,hze,_,hts,_,pi,tf⟩:=lj (P:=P) (t:=el) rfl oh;rw[lx]at tp;cases tp;have hzv:(zeroValue el).run P w=.ok ze w:=qgf;have hvc:v.cells = #[v]:=xs5 h1;have hz:ze.cells.size=1:=aa;simp only[Instr.buildSlice,dh,po r8,dj,z8 lx,wv];have yx:¬(1 * 1 > 2 ^ 24):=bc;rw[if_neg yx,if_neg bc];simp only[dh,hzv,dj,dy];have hf:Instr.fill (fun i=>some (i * 1,1)) ((Array.range (1 * 1)).map (ze.cells[· % ze.cells.size]!)) [(0,v)]=some #[v]:=by
  simp[Instr.fill,hvc,hz,show Array.range 1 = #[0]from rfl]
 simp only[hf,newRow,dh,qdj,dj,dy]
theorem jn3{ρ:Ren}(L:Lays2.n22 P ρ){c:Ctx}{e:Env}{a:Act}{w:World}(s:Sim E.N c e a w)(k:E.ok c e.h w){ops:Array Oper}{rest:List Oper}{o1 o2:Oper}{Q:Exit→Act→World→Prop}{T:TypeId}{x xa xb f:Operand}{d1:Nat}{ts:Array TypeId}
  (g1:o1.guard=none) (g2:o2.guard=none) (pg:o1.dst=some d1) (tg:d1<E.N) (hd2:yw E.N o2.dst) (yh:o1.op=.buildSlice T 1 #[(0,x)]) (hop2:o2.op=.call { callee:=.value f,args:=#[xa,xb,.tmp d1],argTypes:=ts })
  (hT:ij P T=.slice (ρ.t 9) 1) (xv:ij P (ρ.t 9)≠.other) (jq:iy P (ρ.t 9)=1) (hx:l6 e true [x,xa,xb,f]) {key:ByteArray} (hxk:e.getS x=.val (.string key)) {i n:Nat} (hxa:e.getS xa=.own i n) {pos:Nat} (hxb:e.getS xb=.val (.int .i64 pos))
  (ii:∀t,xa=.tmp t→t≠d1) (hneb:∀t,xb=.tmp t→t≠d1) (hf:f=.func (ρ.f 22)) {rows:List (List AV)} (hi:e.h[i]?=some (.uarr (ρ.t 9) 1 rows)) (hn:rows.length=n) (kq:pos≤n) (jr:n+1≤68719476736) (hE22:qwf P (ρ.f 22))
  (ue:∀c' a' w',Sim E.N c' ((({ e with h:=e.h.set i (.uarr (ρ.t 9) 1 (rows.take pos++[.val (.string key)]::rows.drop pos)) }:Env).put o1.dst (.slice [[.val (.string key)]])).put o2.dst (.own i (n+1))) a' w'→E.ok c' (e.h.set i (.uarr (ρ.t 9) 1 (rows.take pos++[.val (.string key)]::rows.drop pos))) w'→wpList P ops Q rest a' w') :
  wpList P ops Q (o1::o2::rest) a w:=by
 have jz:=qx s hx;have l8:=jz x ae;have qys:=jz xa ae;have hrxb:=jz xb ae;rw[hxk]at l8;rw[hxa]at qys;rw[hxb]at hrxb;have hvx:a.eval x=.string key:=l8.val_inv;have hvb:a.eval xb=.int .i64 pos:=hrxb.val_inv;have xci:=xum (P:=P) hT xv jq (v:=.string key) rfl w;obtain⟨c1,qm6,s1,k1,hD1⟩:=xdk s.hs k #[.string key] (ρ.t 9);refine qcs (G:=true) qfo (fun _=>?_) (fun h=>by cases h);refine wm (w':=w.alloc (.cells #[.string key] (ρ.t 9))) (v:=.slice (some ⟨w.heap.size,0,none⟩) 1 1) qgi ?_;have hlit:Rel c1 (.slice [[.val (.string key)]]) (.slice (some ⟨w.heap.size,0,none⟩) 1 1):=by
  refine .data (.slice [[.val (.string key)]] w.heap.size 0 1 1 (fun _ _=>.string key) ae ae ae (fun i j r x' hr hx=>?_) fun i j r x' hr hx=>?_)
  ·cases i with
   |zero =>
    simp at hr;subst hr;cases j with
    |zero=>exact hD1 0 _ rfl
    |succ j=>simp at hx
   |succ i=>simp at hr
  ·cases i with
   |zero =>
    simp at hr;subst hr;cases j with
    |zero=>simp at hx;subst hx;exact .val _ rfl (qsm l8)
    |succ j=>simp at hx
   |succ i=>simp at hr
 have s2:Sim E.N c1 (e.put o1.dst (.slice [[.val (.string key)]])) (a.put o1.dst (.slice (some ⟨w.heap.size,0,none⟩) 1 1)) (w.alloc (.cells #[.string key] (ρ.t 9))) :=
  s.put qm6 s1 (fun j hj=>by rw[pg]at hj;cases hj;exact tg) hlit
 -- the call
 obtain⟨hv,vs,mi,nk,ym⟩:=xag s1 hi hn (qys.mono qm6);have hrow1:∀j u,vs[j]?=some u→∃r x,rows[j]?=some r∧r[0]?=some x∧DRel c1.D x u:=fun j u hu=>by
  have ib:j<rows.length:=by have:=(cq.1 hu).1;rw[mi.1]at this;omega
  have hr:rows[j]?=some rows[j]:=bp;have hrl':=nk _ (c7 hr);have hx0:rows[j][0]?=some (rows[j][0]'aa):=by simp[hrl']
  obtain⟨u',vl,hd⟩:=ym j 0 _ _ hr hx0;rw[qlz,d6,hu]at vl;cases vl;exact⟨_,_,hr,hx0,hd⟩
 have m7:∀u,u∈vs→u.oneCell'=true:=fun u hu=>by
  obtain⟨j,hj⟩:=dv hu;obtain⟨r,x,_,_,hd⟩:=hrow1 j u hj;exact hd.one
 have hbig:w.heap.size<(w.alloc (.cells #[.string key] (ρ.t 9))).heap.size:=ae;have hkeep:(w.alloc (.cells #[.string key] (ρ.t 9))).heap[w.heap.size]?=some (.cells #[.string key] (ρ.t 9) (0,0)):=heap_alloc_new _ _;have sn:∀g,(a.eval xa).ownBlock=some g→w.heap.size≠g:=fun g hg e1=>by
  have pn:c.sl i n=some (a.eval xa):=by
   cases qys with
   |data h=>cases h
   |own _ _ _ h _=>exact h
  have hb:jb c i (.uarr (ρ.t 9) 1 rows)=some g:=by simp[jb,hn,pn,hg]
  have:=(s.hs.obj i _ hi).lt hb;omega
 have qpw:=jmb L mi m7 kq jr (vb:=w.heap.size) (vc:=1) hkeep rfl sn;have heva:(a.put o1.dst (.slice (some ⟨w.heap.size,0,none⟩) 1 1)).eval xa=a.eval xa:=by
  rw[pg];cases xa with
  |tmp t=>have:=ii t rfl;simp[Act.put,Act.eval,gt (Ne.symm this),ed]
  |_=>rfl
 have hevb:(a.put o1.dst (.slice (some ⟨w.heap.size,0,none⟩) 1 1)).eval xb=.int .i64 pos:=by
  rw[←hvb,pg];cases xb with
  |tmp t=>have:=hneb t rfl;simp[Act.put,Act.eval,gt (Ne.symm this),ed]
  |_=>rfl
 have u6:d1<a.tmps.size:=qke;have hevd:(a.put o1.dst (.slice (some ⟨w.heap.size,0,none⟩) 1 1)).eval (.tmp d1)=.slice (some ⟨w.heap.size,0,none⟩) 1 1:=by
  rw[pg];simp[Act.put,Act.eval,u6]
 refine qcs (G:=true) qj3 (fun _=>?_) (fun h=>by cases h);unfold Oper.wp;rw[qxz (us:=#[]) (vs:=#[]) hop2 (by rw[hf];rfl) hE22];simp only[qma,qmm,ql2,c8,e6,heva,hevb,hevd];refine qpw.mono ?_;rintro en w' ⟨v',rfl,zj⟩;have hrlen:rows.length=n:=hn;have qt9:(rows.take pos++[.val (.string key)]::rows.drop pos).length=n+1:=am;obtain⟨c2,qu5,s3,k3,hr3⟩:=xi3 (E:=E) s1 k1 (rows':=rows.take pos++[.val (.string key)]::rows.drop pos) (us:=vs.take pos++.string key::vs.drop pos) hi (by rw[hn];exact hv) aa aa (fun r hr=>by
   rcases dt.1 hr with hr|hr
   ·exact nk r (gc hr)
   ·rcases cw.1 hr with rfl|hr
    ·rfl
    ·exact nk r (qla hr)) (fun i' j r x hr hx=>by
   have hvl:vs.length=n:=by have:=mi.1;omega
   have hj0:∀r':List AV,r'.length=1→r'[j]?=some x→j=0:=fun r' je mc=>by have:=(cq.1 mc).1;omega
   by_cases h1:i'<pos
   ·rw[cu am,dx,if_pos h1]at hr;have hj:=hj0 r (nk r (c7 hr)) hx;subst hj;obtain⟨u,hu,hd⟩:=ym i' 0 r x hr hx;refine⟨u,?_,hd⟩;rw[qlz,d6]at hu⊢;rw[cu am,dx,if_pos h1];exact hu
   ·rw[cy am]at hr;simp only[du,hrlen,gj kq]at hr;by_cases h2:i'=pos
    ·subst h2;rw[ff]at hr;simp at hr;subst hr;have hj:=hj0 [_] rfl hx;subst hj;simp at hx;subst hx;refine⟨.string key,?_,.val _ rfl (qsm l8)⟩;rw[qlz,d6,cy am];simp[hvl,gj kq]
    ·rw[show i' - pos=(i' - (pos+1))+1 by omega]at hr;simp only[qk9,ez]at hr;rw[show pos+(i' - (pos+1))=i' - 1 by omega]at hr;have hj:=hj0 r (nk r (c7 hr)) hx;subst hj;obtain⟨u,hu,hd⟩:=ym (i' - 1) 0 r x hr hx;refine⟨u,?_,hd⟩;rw[qlz,d6]at hu⊢;rw[cy am];simp only[du,hvl,gj kq];rw[show i' - pos=(i' - (pos+1))+1 by omega];simp only[qk9,ez];rw[show pos+(i' - (pos+1))=i' - 1 by omega];exact hu) zj.one (by rw[qt9];exact zj.own) zj.os zj.tape zj.output zj.size zj.two
 rw[qt9]at hr3;refine ue c2 _ w' ?_ k3;have:=s2.put (x:=.own i (n+1)) (d:=o2.dst) qu5 s3 (qxy hd2) hr3;rw[pg]at this⊢;exact this
end
end Go.Abs
namespace Go.Abs
section
variable {P:Program} {E:Ent}
theorem xsl{c:Ctx}{h:gz}{w:World}(s:HSim c h w)(k:E.ok c h w)(e:TypeId){sz n cap:Nat}{cur:Array Value}{rows:List (List AV)}(hn:rows.length=n)(qv0:n≤cap)(pz:cap≤maxLen)(jr:n≤68719476736)
  (ny:∀r,r∈rows→r.length=sz) (pr:cur.size=cap * sz)
  (wg:∀(i' j:Nat) (r:List AV) (x:AV),rows[i']?=some r→r[j]?=some x→∃u,(cur.toList.take (n * sz))[i' * sz+j]?=some u∧DRel c.D x u) :
  c.le (c.addSl h.length n (.slice (some ⟨w.heap.size,0,none⟩) n cap))∧HSim (c.addSl h.length n (.slice (some ⟨w.heap.size,0,none⟩) n cap)) (h++[.uarr e sz rows]) (w.alloc (.cells cur e)) ∧
   E.ok (c.addSl h.length n (.slice (some ⟨w.heap.size,0,none⟩) n cap)) (h++[.uarr e sz rows]) (w.alloc (.cells cur e)):=by
 obtain⟨v0,hv0⟩:∃v0,v0=Value.slice (some ⟨w.heap.size,0,none⟩) n cap:=⟨_,rfl⟩
 rw[←hv0];have ig:c.le (c.addSl h.length n v0):=Ctx.addSl_le ((s.dom _ (ct _)).2 n);have pn:∀i,i<h.length→∀m,(c.addSl h.length n v0).sl i m=c.sl i m:=fun i hi m=>by
  simp only[Ctx.addSl];rw[if_neg aa]
 have ib:∀{i:Nat} {o:AObj},h[i]?=some o→i<h.length:=fun hi=>(cq.1 hi).1;have sw:jb (c.addSl h.length n v0) h.length (.uarr e sz rows)=some w.heap.size:=by simp[jb,Ctx.addSl,hv0,hn,Value.ownBlock]
 have zc:∀b,b<w.heap.size→(w.alloc (.cells cur e)).heap[b]?=w.heap[b]?:=fun b hb=>by first|exact heap_alloc_old w _ b hb|exact heap_alloc_old w _ hb
 refine⟨ig,⟨fun b j v hD=>?_,fun i hi=>?_,fun i o hi=>?_,fun i j o o' b hi hj hb il=>?_,fun i o b j v hi hb hD=>?_⟩,⟨k.edom,k.ext.trans ig,k.blk0,qf5,k.os,k.tape,k.output,d9 k.size (qfg w _),fun b hb iz=>?_,fun i o b hi hb=>?_,k.dold⟩⟩
 ·have mw:=s.data b j v hD;have hb:b<w.heap.size:=World.block_lt_of_cell? w ⟨b,j,none⟩ mw;rw[World.cell?_of_block (w:=w) (zc b hb)];exact mw
 ·simp only[cz,d5,ee]at hi;have:=s.dom i aa;refine⟨this.1,fun m=>?_⟩;simp only[Ctx.addSl];rw[if_neg aa];exact this.2 m
 ·rcases r4 hi with h1|⟨rfl,rfl⟩
  ·exact(s.obj i o h1).keep ig (pn i (ib h1)) fun b hb=>zc b ((s.obj i o h1).lt hb)
  ·refine⟨v0,cur.toList.take (n * sz),by simp[Ctx.addSl,hn],by rw[hv0];rfl,fun m hm=>?_,?_,aa,ny,wg⟩
   ·simp only[Ctx.addSl];rw[if_neg aa];exact(s.dom _ (ct _)).2 m
   ·rw[hv0,hn];refine⟨?_,.inr ⟨w.heap.size,cap,cur,rfl,di _,heap_alloc_new w _,qv0,pz,pr,rfl⟩⟩;rw[du,qlq,pr];exact gj (fb _ qv0)
 ·rcases r4 hi with h1|⟨rfl,rfl⟩<;>rcases r4 hj with h2|⟨rfl,rfl⟩
  ·rw[(s.obj i o h1).blk ig]at hb;rw[(s.obj j o' h2).blk ig]at il;exact s.apart i j o o' b h1 h2 hb il
  ·rw[sw]at il;rw[(s.obj i o h1).blk ig]at hb;cases il;have:=(s.obj i o h1).lt hb;omega
  ·rw[sw]at hb;rw[(s.obj j o' h2).blk ig]at il;cases hb;have:=(s.obj j o' h2).lt il;omega
  ·rfl
 ·have o6:c.D b j=some v:=hD;rcases r4 hi with h1|⟨rfl,rfl⟩
  ·rw[(s.obj i o h1).blk ig]at hb;exact s.sep i o b j v h1 hb o6
  ·rw[sw]at hb;cases hb;rw[s.noD (ct _)]at o6;cases o6
 ·rw[zc b (qlo hb k.size)];exact k.frame b hb iz
 ·rcases r4 hi with h1|⟨rfl,rfl⟩
  ·rw[(s.obj i o h1).blk ig]at hb;exact k.newobj i o b h1 hb
  ·rw[sw]at hb;cases hb;exact .inr k.size
def qn5:Value→AV
 | .slice none 0 0=>.slice []
 |v=>.val v
def zOk(v:Value):Bool:=match v with
 | .slice none 0 0=>true
 |v=>v.oneCell'&&zz v
theorem xij{D:Nat→Nat→Option Value}{v:Value}(h:zOk v=true):DRel D (qn5 v) v:=by
 unfold zOk at h;unfold qn5;split
 ·exact .nil
 ·rename_i ii;split at h
  ·exact(ii rfl).elim
  ·simp only[c0]at h;exact .val v h.1 h.2
theorem jd5{c:Ctx}{e:Env}{a:Act}{w:World}(s:Sim E.N c e a w)(k:E.ok c e.h w){ops:Array Oper}{rest:List Oper}{o1:Oper}{Q:Exit→Act→World→Prop}{T el:TypeId}{x:Operand}{d1 n:Nat}{i:TypeInfo}{z:Value}
  (g1:o1.guard=none) (pg:o1.dst=some d1) (tg:d1<E.N) (yh:o1.op=.makeSlice T x x)
  (ht:P.underlying T=some (.slice el)) (hi:P.info? el=some i) (hz:i.zero=some z) (pi:z.cells.size=i.size) (kq:0<i.size) (qnt:i.bytes≤2048) (hzok:∀v,v∈z.cells.toList→zOk v=true)
  (hx:l6 e true [x]) (hxv:e.getS x=.val (.int .i64 n)) (hn:n≤68719476736)
  (ue:∀c' a' w',Sim E.N c' (({ e with h:=e.h++[.uarr el i.size (List.replicate n (z.cells.toList.map qn5))] }:Env).put o1.dst (.own e.h.length n)) a' w'→E.ok c' (e.h++[.uarr el i.size (List.replicate n (z.cells.toList.map qn5))]) w'→wpList P ops Q rest a' w') :
  wpList P ops Q (o1::rest) a w:=by
 have l8:=qx s hx x ae;rw[hxv]at l8;have hvx:a.eval x=.int .i64 n:=l8.val_inv;have hbb:i.bytes * n≤2048 * 68719476736:=Nat.mul_le_mul qnt hn;have jx:=run_make (P:=P) w T el i z ht hi hz .i64 .i64 (n:Int) (n:Int) aa (Int.le_refl _) (by
  have:(i.bytes:Int) * (n:Int)=((i.bytes * n:Nat):Int):=ae;omega) aa
 simp only[qld]at jx;have qg:∀m,m<n * i.size→(madeCells z.cells (n * i.size))[m]?=z.cells[m % i.size]?:=fun m hm=>by
  unfold madeCells;rw[gv];simp only[Array.getElem?_range,hm,if_true,fx,pi];have:m % i.size<z.cells.size:=qir;rw[fm this,getElem!_pos z.cells (m % i.size) this]
 have jq:(madeCells z.cells (n * i.size)).size=n * i.size:=by simp[madeCells]
 have hU:=xsl (E:=E) (n:=n) (cap:=n) (sz:=i.size) (cur:=madeCells z.cells (n * i.size)) (rows:=List.replicate n (z.cells.toList.map qn5)) s.hs k el ae (ct _) qky hn (by
   intro r hr;rw[List.eq_of_mem_replicate hr];simp[pi]) jq (by
   intro i' j r x' hr mc;have hin:i'<n:=by
    have:=(cq.1 hr).1;simpa using this
   rw[qmn,if_pos hin]at hr;cases hr;rw[dq]at mc;obtain⟨u,hu,rfl⟩:=dn.1 mc;have hj:j<i.size:=by
    have:=(cq.1 hu).1;simpa[pi]using this
   have ib:i' * i.size+j<n * i.size:=by
    have:(i'+1) * i.size≤n * i.size:=fb _ hin;rw[Nat.succ_mul]at this;omega
   refine⟨u,?_,xij (hzok u (c7 hu))⟩;rw[dx,if_pos ib,fc,qg _ ib];have:(i' * i.size+j) % i.size=j:=by
    rw[qlk,Nat.mul_add_mod];exact Nat.mod_eq_of_lt hj
   rw[this,←fc];exact hu)
 obtain⟨ig,s1,k1⟩:=hU;refine qcs (G:=true) qfo (fun _=>?_) (fun h=>by cases h);refine wm (w':=w.alloc (.cells (madeCells z.cells (n * i.size)) el)) (v:=.slice (some ⟨w.heap.size,0,none⟩) n n) (by simp only[execOp,yh,hvx,dh,jx,dj,dy]) ?_;refine ue _ _ _ ?_ k1;exact s.put ig s1 (fun j hj=>by rw[pg]at hj;cases hj;exact tg) (.own _ _ _ bu rfl)
def qpg:AV→AV
 | .nils=>.slice []
 |x=>x
theorem xmk{v:Value}(h:tr v≠.top):qn5 v=qpg (tr v)∧(v.oneCell'=true→zOk v=true):=by
 unfold tr at h⊢;split at h
 ·exact⟨rfl,fun _=>rfl⟩
 ·split at h
  ·rename_i hs;refine⟨?_,fun _=>?_⟩
   ·rw[if_pos hs];rfl
   ·simp[zOk,Value.oneCell',zz,hs]
  ·exact(h rfl).elim
 ·rename_i h1 h2;refine⟨?_,fun ho=>?_⟩
  ·unfold qn5;split
   ·exact(h1 rfl).elim
   ·rfl
  ·unfold zOk;split
   ·rfl
   ·rw[ho];unfold zz;split
    ·exact(h2 _ rfl).elim
    ·rfl
theorem qy1{c:Ctx}{e:Env}{a:Act}{w:World}(s:Sim E.N c e a w)(k:E.ok c e.h w){ops:Array Oper}{rest:List Oper}{o1:Oper}{Q:Exit→Act→World→Prop}{T el:TypeId}{x:Operand}{d1 n sz:Nat}{zr:List AV}
  (g1:o1.guard=none) (pg:o1.dst=some d1) (tg:d1<E.N) (yh:o1.op=.makeSlice T x x)
  (hT:ij P T=.slice el sz) (xv:ij P el≠.other) (pr:iy P el=sz) (kq:0<sz) (qnt:jn P el≤2048) (hzt:∀x,x∈jo P el→x≠.top) (hzr:(jo P el).map qpg=zr)
  (hx:l6 e true [x]) (hxv:e.getS x=.val (.int .i64 n)) (hn:n≤68719476736)
  (ue:∀c' a' w',Sim E.N c' (({ e with h:=e.h++[.uarr el sz (List.replicate n zr)] }:Env).put o1.dst (.own e.h.length n)) a' w'→E.ok c' (e.h++[.uarr el sz (List.replicate n zr)]) w'→wpList P ops Q rest a' w') :
  wpList P ops Q (o1::rest) a w:=by
 obtain⟨iT,dT,zT,_,r8,_,vz,_⟩:=lj hT ae;obtain⟨rfl,ie,lx,wv⟩:=xx vz;obtain⟨ie',de,ze,tp,_,hze,oh,hts,htz,pi,tf⟩:=lj (P:=P) (t:=el) rfl xv;rw[lx]at tp;cases tp;subst wv;have hb:ie.bytes≤2048:=by
  have:jn P el=ie.bytes:=by
   unfold jn;have ii:=xv;unfold ij at ii;split at ii
   ·rename_i x hx;obtain⟨i2,d2,z2,g1,_,_,rfl,_⟩:=qvk hx;rw[lx]at g1;cases g1;simp[hx]
   ·exact(ii rfl).elim
  omega
 have ix:∀v,v∈ze.cells.toList→qn5 v=qpg (tr v)∧zOk v=true:=fun v hv=>by
  have h1:tr v≠.top:=hzt _ qh6;obtain⟨h2,h3⟩:=xmk h1;exact⟨h2,h3 (tf v hv)⟩
 have ny:ze.cells.toList.map qn5=zr:=by
  rw[←hzr,htz,qlt];exact qmd fun v hv=>(ix v hv).1
 refine jd5 s k g1 pg tg yh r8 lx hze pi kq hb (fun v hv=>(ix v hv).2) hx hxv hn ?_;rw[ny];exact ue
end
section
variable {P:Program} {E:Ent}
inductive MK where
 |val
 |arr (el sz n:Nat) (zr:List AV)
 |cell (xs:List AV)
 |copy (t:Tmp)
def MK.made:MK→Bool
 | .val=>false
 | .copy _=>false
 |_=>true
def xg9(P:Program)(N:Nat)(o:Oper)(e:Env)(K:MK→DR→Prop):Prop :=
 o.guard=none∧yw N o.dst∧match o.op with
 | .makeSlice T x y=>(x=y∧o.dst.isSome=true)∧match ij P T,e.getS x with
  | .slice el sz,.val (.int .i64 n)=>ij P el≠.other∧iy P el=sz∧0<sz∧jn P el≤2048∧(∀x,x∈jo P el→x≠.top)∧l6 e true [x]∧0≤n∧n≤68719476736∧K (.arr el sz n.toNat ((jo P el).map qpg)) ⟨o.dst,.top,.quiet none⟩
  |_,_=>False
 | .alloc T=>(ij P T≠.other∧o.dst.isSome=true)∧K (.cell (jo P T)) ⟨o.dst,.top,.quiet none⟩
 | .pick ..=>False
 | .assign (.tmp t)=>match kj e.t t with
  | .top=>o.dst.isSome=true∧K (.copy t) ⟨o.dst,.top,.quiet none⟩
  |_=>l6 e true [.tmp t]∧(qb P e.getS e.h (.assign (.tmp t))).side∧K .val ⟨o.dst,(qb P e.getS e.h (.assign (.tmp t))).val,.quiet none⟩
 |op=>xcd op=false∧l6 e true op.operands.toList∧(qb P e.getS e.h op).side∧K .val ⟨o.dst,(qb P e.getS e.h op).val,.quiet none⟩
def xrv(P:Program)(N:Nat):List Oper→Env→List MK→(List MK→Env→Prop)→Prop
 | [],e,iu,K=>K iu e
 |o::l,e,iu,K=>xg9 P N o e fun m r=>xrv P N l (e.put r.dst r.res) (iu++[m]) K
def xul(e:Env)(o:Oper):MK→Env
 | .val=>e
 | .arr el sz n zr=>({ e with h:=e.h++[.uarr el sz (List.replicate n zr)] }:Env).put o.dst (.own e.h.length n)
 | .cell xs=>({ e with h:=e.h++[.cells xs] }:Env).put o.dst (.ptr e.h.length 0)
 | .copy t=>e.put o.dst (kj e.t t)
def xpl:List Oper→List MK→Env→Env
 |o::l,m::ms,e=>xpl l ms (xul e o m)
 |_,_,e=>e
def MadeAt(c:Ctx)(w:World)(s0:Nat):MK→Nat→Value→Prop
 | .val,_,_=>True
 | .arr el sz n zr,b,v=>v=.slice (some ⟨b,0,none⟩) n n∧s0≤b∧n≤68719476736∧zr.length=sz∧∃cur,w.heap[b]?=some (.cells cur el)∧cur.size=n * sz ∧
   ∀(i' j:Nat) (r:List AV) (x:AV),(List.replicate n zr)[i']?=some r→r[j]?=some x→∃u,(cur.toList.take (n * sz))[i' * sz+j]?=some u∧DRel c.D x u
 | .copy _,_,_=>True
 | .cell xs,b,v=>v=.pointer (some ⟨b,0,none⟩)∧s0≤b∧∃vs T,w.heap[b]?=some (.cells vs T)∧qsa c xs vs
theorem MadeAt.lt{c:Ctx}{w:World}{s0 b:Nat}{m:MK}{v:Value}(hm:m.made=true)(h:MadeAt c w s0 m b v):b<w.heap.size∧s0≤b:=by
 cases m with
 |val=>cases hm
 |copy t=>cases hm
 |arr el sz n zr =>
  obtain⟨_,h0,_,_,cur,h1,_⟩:=h;exact⟨(f0.1 h1).1,h0⟩
 |cell xs =>
  obtain⟨_,h0,vs,T,h1,_⟩:=h;exact⟨(f0.1 h1).1,h0⟩
structure MReg(P:Program)(E:Ent)(l:List Oper)(e0:Env)(R:List DR)(ms:List MK):Prop where
 ok:DrawOk l
 len:R.length=l.length
 mlen:ms.length=l.length
 step:∀(k:Nat) (o:Oper),l[k]?=some o→∃m r,ms[k]?=some m∧R[k]?=some r∧xg9 P E.N o (ja e0 (R.take k)) fun m' r'=>m'=m∧r'=r
structure MInv(E:Ent)(s0:Nat)(e0:Env)(l:List Oper)(R:List DR)(ms:List MK)(c:Ctx)(X:Nat→Bool)(a:Act)(w:World):Prop where
 defers:a.defers=[]
 size:a.tmps.size=E.N
 tmps:∀t,Rel c (wa X t 0 R (kj e0.t t)) (a.tmps.getD t undef)
 hs:HSim c e0.h w
 ok:E.ok c e0.h w
 copies:∀k o t d,X k=true→l[k]?=some o→ms[k]?=some (.copy t)→o.dst=some d→(∀j o',l[j]?=some o'→o'.dst=some t→j<k)→a.tmps.getD d undef=a.tmps.getD t undef
 made:∃B:Nat→Nat,(∀k o m d,X k=true→l[k]?=some o→ms[k]?=some m→m.made=true→o.dst=some d→MadeAt c w s0 m (B k) (a.tmps.getD d undef)) ∧
  (∀k k' o o' m m',X k=true→X k'=true→l[k]?=some o→l[k']?=some o'→ms[k]?=some m→ms[k']?=some m'→m.made=true→m'.made=true→o.dst≠none→o'.dst≠none→B k=B k'→k=k')
theorem HSim.alloc{c:Ctx}{h:gz}{w:World}(s:HSim c h w)(o:Obj):HSim c h (w.alloc o):=s.ext (fun _ hb=>heap_alloc_old w _ hb) (.refl c) (fun _ _=>rfl) (fun _ _ _ h=>.inl h) s.dom
theorem Ent.ok.alloc{c:Ctx}{h:gz}{w:World}(k:E.ok c h w)(s:HSim c h w)(o:Obj):E.ok c h (w.alloc o):=k.ext' s (fun _ hb=>heap_alloc_old w _ hb) (.refl c) (fun _=>rfl) rfl rfl rfl (qfg w _) (fun _ _ _ h=>.inl h)
attribute [go_sem] xrv xg9 xpl xul
end
end Go.Abs
