/- Part 11 of a proof: AbsW, AbsY -/
import Derived.Test.YtilhejdbiionhaaGreatDoorR10
set_option linter.all false

namespace Go.Abs
section
variable {P:Program} {E:Ent}
theorem call_rel{c:Ctx}{h:qab}{a:Act}{w:World}(hs:HSim c h w)(k:E.ok c h w){o:Oper}{f:Operand}{args:Array Operand}{ts:Array TypeId}(ho:o.op=.call { callee:=.value f,args:=args,argTypes:=ts })
  {g:Operand→AV} (hrel:∀x,x∈f::args.toList→Rel c (g x) (a.eval x)) {fid:FuncId} {first caps:List AV} (hf:g f=.fn (.func fid) first caps) {R:AEnd→qab→Prop}
  (hc:ACalls P fid (qbi h (first++args.toList.map g++caps)) h R) {next:Act→World→Prop} {Q:Exit→Act→World→Prop}
  (hret:∀v h' c' w' u,R (.ret v) h'→c.le c'→HSim c' h' w'→E.ok c' h' w'→Rel c' v u→next (a.put o.dst u) w') (hpan:∀v h',¬R (.panic v) h'):o.wp P a w next Q:=by
 have hfr:=hrel f (by simp);rw[hf]at hfr;obtain⟨us,vs,hev,h1,h2⟩:∃us vs,a.eval f=.func (.func fid) us vs∧RelL c first us∧RelL c caps vs:=by
  generalize a.eval f=z at hfr;cases hfr with
  |data h=>cases h
  |fn f ys xs us vs hl' hl h' h=>exact⟨us,vs,rfl,⟨hl',h'⟩,⟨hl,h⟩⟩
 have hargs:RelL c (args.toList.map g) (args.map a.eval):=RelL.map fun x hx=>hrel x (by simp[hx]);have hlist:=(RelL.app (RelL.app h1 hargs) h2).norm hs;obtain⟨s1,k1⟩:=share_ok hs k;unfold Oper.wp;rw[run_enter ho hev hc.1];refine(hc.2 _ w _ s1 hlist).mono ?_;rintro en w' ⟨r,h',c',hR,hE,hs',hk'⟩;have hle:c.le c':=(share_le c h w).trans hk'.ext;have hok:E.ok c' h' w':=k1.trans hk';cases r with
 |ret v =>
  cases en with
  |returned u=>exact hret v h' c' w' u hR hle hs' hok hE
  |_=>simp[EndR]at hE
 |panic v=>exact(hpan v h' hR).elim
theorem wanted_rel{ops:Array Oper}{l:List Oper}(hops:ops.toList=l){i:Nat}{c:Ctx}{e:Env}{a:Act}{o:Oper}(hgl:∀j want,o.guard=some (j,want)→j<i)
  (hr:∀t,t∈guardSlot l o→Rel c (qbb e.t t) (a.tmps.getD t undef)) {G:Bool} (h:gB ((l.take i).map (·.dst)) e o.guard=some G):Region.wanted o (yielded ops a.tmps)=G:=by
 unfold gB at h;unfold Region.wanted;split at h
 ·rename_i hg;simp only[hg];simpa using h
 ·rename_i j want hg;simp only[hg];have hji:=hgl j want hg;split at h
  ·rename_i t ht;have hj:(ops[j]?).bind (·.dst)=some t:=by
    simp only[List.getElem?_map,Option.map_eq_some_iff,List.getElem?_take,if_pos hji]at ht;obtain⟨o',ho',hd⟩:=ht;have:ops[j]?=some o':=by rw[←hops]at ho';simpa using ho'
    simp[this,hd]
   have hj':(l[j]?).bind (·.dst)=some t:=by rw[←hops];simpa using hj
   have hr:=hr t (by simp[guardSlot,hg,hj']);have hy:∀b,a.tmps.getD t undef=.bool b→yielded ops a.tmps j=some b:=fun b hb=>by
    unfold yielded;rw[hj];simp only[Option.bind_some];simp only[Array.getD_eq_getD_getElem?]at hb;cases ht':a.tmps[t]? with
    |none=>rw[ht']at hb;simp[undef]at hb
    |some v=>rw[ht']at hb;simp at hb;subst hb;rfl
   split at h
   ·rename_i b hb;rw[hb]at hr;rw[hy b hr.val_inv];simp only[Option.some.injEq]at h;rw[←h];cases b<;>cases want<;>rfl
   ·rename_i g b hb;rw[hb]at hr;simp only[Option.some.injEq]at h;cases g with
    |true =>
     have hr':Rel c (.val (.bool b)) (a.tmps.getD t undef):=by
      cases hr with
      |data h=>cases h
      |opt g x v h hn=>exact h rfl
     rw[hy b hr'.val_inv,←h];cases b<;>cases want<;>rfl
    |false =>
     have hu:a.tmps.getD t undef=undef:=by
      cases hr with
      |data h=>cases h
      |opt g x v h hn=>exact hn rfl
     have:yielded ops a.tmps j=none:=by
      unfold yielded;rw[hj];simp only[Option.bind_some];simp only[Array.getD_eq_getD_getElem?]at hu;cases ht':a.tmps[t]? with
      |none=>rfl
      |some v=>rw[ht']at hu;simp at hu;subst hu;rfl
     rw[this,←h];rfl
   ·rename_i x hnb hb;rw[hb]at hr;simp only[Option.some.injEq]at h;have hu:a.tmps.getD t undef=undef:=by
     cases hr with
     |data h=>cases h
     |opt g x v h hn=>exact hn rfl
    have:yielded ops a.tmps j=none:=by
     unfold yielded;rw[hj];simp only[Option.bind_some];simp only[Array.getD_eq_getD_getElem?]at hu;cases ht':a.tmps[t]? with
     |none=>rfl
     |some v=>rw[ht']at hu;simp at hu;subst hu;rfl
    rw[this,←h];rfl
   ·cases h
  ·cases h
theorem stepD_dst{N:Nat}{ds:List (Option Tmp)}{o:Oper}{e:Env}{K:DR→Prop}(h:stepD P N ds o e K):qee N o.dst∧∃r,r.dst=o.dst∧K r∧((∃i off cs,r.k=.store i off cs)→isStore o.op=true):=by
 unfold stepD at h;split at h
 ·exact h.elim
 ·rename_i G hG;obtain⟨hd,h⟩:=h;refine⟨hd,?_⟩;split at h
  ·exact⟨_,rfl,h.2,by rintro⟨_,_,_,h⟩;cases h⟩
  ·exact⟨_,rfl,h.2.2.2,by rintro⟨_,_,_,h⟩;cases h⟩
  ·exact⟨_,rfl,h.2.2,by rintro⟨_,_,_,h⟩;cases h⟩
  ·rename_i T a x hop;obtain⟨h1,h2,h3,h4,h5,h6,h7⟩:=h;split at h7
   ·split at h7
    ·exact⟨_,h2.symm,h7.2,fun _=>by simp[isStore,hop]⟩
    ·exact h7.elim
   ·exact h7.elim
  ·split at h
   ·split at h
    ·exact⟨_,rfl,h.2.2.2.2.2.2.2,by rintro⟨_,_,_,h⟩;cases h⟩
    ·split at h
     ·exact⟨_,rfl,h.2.2.2.2.2.2,by rintro⟨_,_,_,h⟩;cases h⟩
     ·exact h.elim
   ·exact h.elim
  ·split at h
   ·obtain⟨r,h1,h2⟩:=h;exact⟨_,rfl,h2,by rintro⟨_,_,_,h⟩;cases h⟩
   ·exact h.elim
  ·exact⟨_,rfl,h.2,by rintro⟨_,_,_,h⟩;cases h⟩
def hX(R:List DR)(X:Nat→Bool)(h:qab):qab:=qce (selX X 0 R) (h++qa9 X 0 R)
structure DInv(E:Ent)(e0:Env)(R:List DR)(X:Nat→Bool)(c:Ctx)(a:Act)(w:World):Prop where
 defers:a.defers=[]
 size:a.tmps.size=E.N
 tmps:∀t,Rel c (slotX X t 0 R (qbb e0.t t)) (a.tmps.getD t undef)
 hs:HSim c (hX R X e0.h) w
 ok:E.ok c (hX R X e0.h) w
 nob:∀i r xs,R[i]?=some r→r.k=.fresh xs→X i=false→c.blk (e0.h.length+nFresh R i)=none
 fit:∀r,r∈selX X 0 R→∀i off cs,r.k=.store i off cs→∃xs,(e0.h++qa9 X 0 R)[i]?=some (.cells xs)∧off+cs.length≤xs.length
theorem hX_len(R:List DR)(X:Nat→Bool)(h:qab):(hX R X h).length=h.length+(qa9 X 0 R).length:=by
 unfold hX;rw[applyS_len];simp
theorem hX_sameArr{R:List DR}{X:Nat→Bool}{e0:Env}{i:Nat}:SameArr (qal e0 (R.take i)).h (hX R X e0.h):=by
 intro j o hoa;have hnc:∀xs,o≠AObj.cells xs:=fun xs h=>by subst h;cases hoa
 have hnn:o≠AObj.none:=fun h=>by subst h;cases hoa
 rw[envAt_h];unfold hX;rw[applyS_kind _ _ _ _ hnc];by_cases hj:j<e0.h.length
 ·rw[List.getElem?_append_left hj,List.getElem?_append_left hj]
 ·rw[List.getElem?_append_right (by omega),List.getElem?_append_right (by omega)];constructor
  ·intro h;obtain⟨i',r,xs,_,_,_,h4⟩:=qda _ _ _ _ h;exact(hnc xs h4).elim
  ·intro h;obtain⟨i',r,xs,_,_,_,h4⟩:=qda _ _ _ _ h;rw[Nat.zero_add]at h4;cases hX:X i' with
   |true=>rw[hX]at h4;exact(hnc xs h4).elim
   |false=>rw[hX]at h4;exact(hnn h4).elim
theorem hX_map{R:List DR}{X:Nat→Bool}{e0:Env}{i:Nat}(j:Nat)(es:List (AV×AV)):(qal e0 (R.take i)).h[j]?=some (.map es)↔(hX R X e0.h)[j]?=some (.map es):=by
 rw[envAt_h];unfold hX;rw[applyS_kind _ _ _ _ (by simp)];by_cases hj:j<e0.h.length
 ·rw[List.getElem?_append_left hj,List.getElem?_append_left hj]
 ·rw[List.getElem?_append_right (by omega),List.getElem?_append_right (by omega)];constructor
  ·intro h;obtain⟨i',r,xs,_,_,_,h4⟩:=qda _ _ _ _ h;simp at h4
  ·intro h;obtain⟨i',r,xs,_,_,_,h4⟩:=qda _ _ _ _ h;rw[Nat.zero_add]at h4;cases hX:X i'<;>simp[hX]at h4
theorem hX_raw{R:List DR}{X:Nat→Bool}{e0:Env}{i:Nat}:SameRaw (qal e0 (R.take i)).h (hX R X e0.h):=by
 intro j o ho;have hnc:∀xs,o≠AObj.cells xs:=fun xs h=>by subst h;cases ho
 rw[envAt_h];unfold hX;rw[applyS_kind _ _ _ _ hnc];by_cases hj:j<e0.h.length
 ·rw[List.getElem?_append_left hj,List.getElem?_append_left hj];exact id
 ·rw[List.getElem?_append_right (by omega),List.getElem?_append_right (by omega)];intro h;obtain⟨i',r,xs,_,_,_,h4⟩:=qda _ _ _ _ h;exact(hnc xs h4).elim
theorem alloc_at{c:Ctx}{h:qab}{w:World}(s:HSim c h w)(k:E.ok c h w){n:Nat}(hn:h[n]?=some .none)(hb:c.blk n=none)(hE:E.h.length≤n){xs:List AV}{vs:Array Value}(T:TypeId)(hc:CellsR c xs vs) :
  ∃c',c.le c'∧HSim c' (h.set n (.cells xs)) (w.alloc (.cells vs T))∧E.ok c' (h.set n (.cells xs)) (w.alloc (.cells vs T))∧c'.blk n=some w.heap.size∧∀i,i≠n→c'.blk i=c.blk i:=by
 have hw:∀b,b<w.heap.size→(w.alloc (.cells vs T)).heap[b]?=w.heap[b]?:=fun b hb=>heap_alloc_old w _ b hb;have s1:HSim c h (w.alloc (.cells vs T)):=s.ext hw (.refl c) (fun _ _=>rfl) (fun _ _ _ h=>.inl h) s.dom;have k1:E.ok c h (w.alloc (.cells vs T)):=k.ext' s hw (.refl c) (fun _=>rfl) rfl rfl rfl (alloc_le w _) (fun _ _ _ h=>.inl h);have hle:c.le (c.addBlk n w.heap.size):=Ctx.addBlk_le hb;have hblk:(c.addBlk n w.heap.size).blk n=some w.heap.size:=by simp[Ctx.addBlk]
 have hlt:n<h.length:=(List.getElem?_eq_some_iff.1 hn).1;have hbn:∀b',qag (c.addBlk n w.heap.size) n (.cells xs)=some b'→b'=w.heap.size:=fun b' hb'=>by
  simp only[qag,hblk,Option.some.injEq]at hb';exact hb'.symm
 refine⟨_,hle,⟨s1.data,fun i hi=>?_,fun i o hi=>?_,fun i j o o' b hi hj hbi hbj=>?_,fun i o b j v hi hbi hD=>?_⟩,⟨k.edom,k.ext.trans hle,fun m hm=>by
   simp only[Ctx.addBlk];rw[if_neg (by omega)];exact k.blk0 m hm,by simpa using k.len,k1.os,k1.tape,k1.output,k1.size,k1.frame,fun i o b hi hbi=>?_,k1.dold⟩,hblk,fun i hi=>by simp[Ctx.addBlk,hi]⟩
 ·have hi':h.length≤i:=by simpa using hi
  have:=s.dom i hi';refine⟨?_,this.2⟩;simp only[Ctx.addBlk];rw[if_neg (by omega)];exact this.1
 ·rcases qad hi with⟨rfl,rfl⟩|⟨hne,h1⟩
  ·exact⟨_,vs,T,hblk,heap_alloc_new w _,hc.1,fun j x v hx hv=>⟨(hc.2 j x v hx hv).1.mono hle,(hc.2 j x v hx hv).2⟩⟩
  ·exact(s1.obj i o h1).keep hle (fun _=>rfl) fun _ _=>rfl
 ·rcases qad hi with⟨rfl,rfl⟩|⟨hne,h1⟩<;>rcases qad hj with⟨h5,h6⟩|⟨hne',h2⟩
  ·exact h5.symm
  ·rw[(s1.obj j o' h2).blk hle]at hbj;have:=hbn b hbi;subst this;exact(s.fresh (Nat.le_refl _) j o' h2 hbj).elim
  ·subst h5;subst h6;rw[(s1.obj i o h1).blk hle]at hbi;have:=hbn b hbj;subst this;exact(s.fresh (Nat.le_refl _) i o h1 hbi).elim
  ·rw[(s1.obj i o h1).blk hle]at hbi;rw[(s1.obj j o' h2).blk hle]at hbj;exact s.apart i j o o' b h1 h2 hbi hbj
 ·rcases qad hi with⟨rfl,rfl⟩|⟨hne,h1⟩
  ·have:=hbn b hbi;subst this;have hD':c.D w.heap.size j=some v:=hD;rw[s.noD (Nat.le_refl _) j]at hD';cases hD'
  ·rw[(s1.obj i o h1).blk hle]at hbi;exact s.sep i o b j v h1 hbi hD
 ·rcases qad hi with⟨rfl,rfl⟩|⟨hne,h1⟩
  ·have:=hbn b hbi;subst this;exact .inr k.size
  ·rw[(s1.obj i o h1).blk hle]at hbi;exact k.newobj i o b h1 hbi
theorem store_run{c:Ctx}{h:qab}{w:World}(hs:HSim c h w)(k:E.ok c h w){o:Oper}{ev:Operand→Value}{T:TypeId}{ad x:Operand}(hop:o.op=.store T ad x){i off:Nat}{xs:List AV}{y:AV}(hra:Rel c (.ptr i off) (ev ad))(hrx:Rel c y (ev x))
  (hi:h[i]?=some (.cells xs)) (hok:y.cellsOk=true) (hsz:y.cells.length=qat P T) (hk:qah P T≠.other) (hle:off+y.cells.length≤xs.length) :
  ∃w',(execOp ev o).run P w=.ok .skip w'∧HSim c (h.set i (.cells (splice xs off y.cells))) w'∧E.ok c (h.set i (.cells (splice xs off y.cells))) w':=by
 obtain⟨b,hav,hb⟩:=ptr_inv hra;obtain⟨h1,h2⟩:=hrx.cells hok;obtain⟨b',vs,T',g1,g2,g3,g4⟩:=hs.obj i _ hi;rw[hb]at g1;cases g1;obtain⟨iT,d,z,t1,t2,t3,t4,t5,_⟩:=qas (P:=P) (t:=T) rfl hk;have hone:∀v,v∈(ev x).cells.toList→v.oneCell'=true:=fun v hv=>by
  obtain⟨j,hj⟩:=List.getElem?_of_mem hv;have hlt:j<y.cells.length:=by rw[←h1];have:=(List.getElem?_eq_some_iff.1 hj).1;simpa using this
  exact(h2 j _ v (by simp[hlt];rfl) (by simpa using hj)).2
 have hrun:=run_storeCells_at P b off T' (ev x).cells.toList 0 vs w g2 (by simp[h1,g3];omega) hone;simp only[Nat.add_zero]at hrun;have hsize:(ev x).cells.size=iT.size:=by rw[h1,hsz,t5]
 have hst:(execOp ev o).run P w=.ok .skip (w.setRow b (vs.toList.take off++(ev x).cells.toList++vs.toList.drop (off+(ev x).cells.toList.length)).toArray):=by
  simp only[execOp,hop,Instr.storeAt,hav,Instr.sureAddr,storeVar,Sem.run_bind,Sem.run_pure,Result.andThen_ok,qbh t1,hsize,ne_eq,not_true_eq_false,if_false,hrun]
 have hcells:CellsR c (splice xs off y.cells) (vs.toList.take off++(ev x).cells.toList++vs.toList.drop (off+(ev x).cells.toList.length)).toArray:=by
  unfold splice;have hl2:(ev x).cells.toList.length=y.cells.length:=by simpa using h1
  refine⟨by first|(simp[hl2,g3];done)|(simp[hl2,g3];omega),fun j y' v hy hv=>?_⟩;have hv':(vs.toList.take off++(ev x).cells.toList++vs.toList.drop (off+(ev x).cells.toList.length))[j]?=some v:=by simpa using hv
  rw[hl2]at hv';by_cases hj1:j<off
  ·rw[List.append_assoc,List.getElem?_append_left (by simp;omega),List.getElem?_take,if_pos hj1]at hy;rw[List.append_assoc,List.getElem?_append_left (by simp;omega),List.getElem?_take,if_pos hj1]at hv';exact g4 j y' v hy (by simpa using hv')
  ·by_cases hj2:j<off+y.cells.length
   ·rw[List.append_assoc,List.getElem?_append_right (by simp;omega),List.getElem?_append_left (by simp;omega)]at hy;rw[List.append_assoc,List.getElem?_append_right (by simp;omega),List.getElem?_append_left (by simp;omega)]at hv';have m1:min off xs.length=off:=by omega
    have m2:min off vs.size=off:=by omega
    simp only[List.length_take,m1]at hy;simp only[List.length_take,Array.length_toList,m2]at hv';exact h2 _ y' v hy (by simpa using hv')
   ·rw[List.getElem?_append_right (by simp;omega),List.getElem?_drop]at hy;rw[List.getElem?_append_right (by simp[h1];omega),List.getElem?_drop]at hv';simp only[List.length_append,List.length_take]at hy;simp only[List.length_append,List.length_take,Array.length_toList,h1]at hv';rw[show off+y.cells.length+(j - (min off xs.length+y.cells.length))=j from by omega]at hy;rw[show off+y.cells.length+(j - (min off vs.size+y.cells.length))=j from by omega]at hv';exact g4 j y' v hy (by simpa using hv')
 obtain⟨s',k'⟩:=store_ok hs k hi hb g2 hcells.1 hcells.2;exact⟨_,hst,s',k'⟩
theorem applyS_set{l:List DR}{n:Nat}{o:AObj}:∀{h:qab},(∀r,r∈l→∀off cs,r.k≠.store n off cs)→qce l (h.set n o)=(qce l h).set n o:=by
 induction l with
 |nil=>intro h _;rfl
 |cons r l ih =>
  intro h hno;rw[qbx,List.foldl_cons,←qbx,qbx (r::l),List.foldl_cons,←qbx];have h1:stepS r (h.set n o)=(stepS r h).set n o:=by
   unfold stepS;split
   ·rename_i i off cs hk;have hne:n≠i:=fun e=>hno r (by simp) off cs (by rw[hk,e]);rw[List.getElem?_set_ne hne];split
    ·rename_i xs heq;simp only[heq];rw[List.set_comm _ _ hne]
    ·rfl
   ·rfl
  rw[h1,ih fun r' hr=>hno r' (by simp[hr])]
theorem nFresh_inj{R:List DR}{i j:Nat}{ri rj:DR}{xi xj:List AV}(hi:R[i]?=some ri)(hj:R[j]?=some rj)(hki:ri.k=.fresh xi)(hkj:rj.k=.fresh xj)(h:nFresh R i=nFresh R j):i=j:=by
 have h1:=freshX_get (X:=fun m=>decide (m=i)) R 0 i ri xi hi hki;have h2:=freshX_get (X:=fun m=>decide (m=i)) R 0 j rj xj hj hkj;unfold nFresh at h;rw[h,h2]at h1;by_cases he:j=i
 ·exact he.symm
 ·simp[he]at h1
theorem selX_in{X:Nat→Bool}{r:DR}:∀{R:List DR} {k j:Nat},R[j]?=some r→X (k+j)=true→r∈selX X k R
 | [],_,_,h,_=>by simp at h
 |b::R,k,0,h,hX=>by simp at h;subst h;simp only[Nat.add_zero]at hX;simp[selX,hX]
 |b::R,k,j+1,h,hX=>by
  have:=selX_in (X:=X) (R:=R) (k:=k+1) (j:=j) (by simpa using h) (by rwa [show k+1+j=k+(j+1)from by omega]);simp only[selX];cases X k<;>simp[this]
end
end Go.Abs

namespace Go.Abs
section
variable {P:Program} {E:Ent}
structure DRegW(l:List Oper)(R:List DR):Prop where
 ok:DrawOk l
 len:R.length=l.length
 dst:∀{k:Nat} {r:DR},R[k]?=some r→∃o,l[k]?=some o∧r.dst=o.dst∧((∃i off cs,r.k=.store i off cs)→isStore o.op=true)
 sep:∀(k s:Nat) (r r':DR) (i off:Nat) (cs:List AV),R[k]?=some r→r.k=.quiet (some i)→R[s]?=some r'→r'.k=.store i off cs→k<s∧ordB (Region.before l.toArray) k s=true
structure DReg(P:Program)(E:Ent)(l:List Oper)(e0:Env)(R:List DR):Prop where
 ok:DrawOk l
 len:R.length=l.length
 step:∀(k:Nat) (o:Oper),l[k]?=some o→stepD P E.N ((l.take k).map (·.dst)) o (qal e0 (R.take k)) (fun r=>R[k]?=some r)
 sep:∀(k s:Nat) (r r':DR) (i off:Nat) (cs:List AV),R[k]?=some r→r.k=.quiet (some i)→R[s]?=some r'→r'.k=.store i off cs→k<s∧ordB (Region.before l.toArray) k s=true
theorem DReg.weak{l:List Oper}{e0:Env}{R:List DR}(d:DReg P E l e0 R):DRegW l R where
 ok:=d.ok
 len:=d.len
 sep:=d.sep
 dst:=fun {k r} hr=>by
  have hlt:k<l.length:=by rw[←d.len];exact(List.getElem?_eq_some_iff.1 hr).1
  obtain⟨_,r',h1,h2,h3⟩:=stepD_dst (d.step k l[k] (by simp[hlt]));rw[hr]at h2;cases h2;exact⟨l[k],by simp[hlt],h1,h3⟩
theorem draw_step{l:List Oper}{e0:Env}{R:List DR}(d:DRegW l R)(hE0:E.h.length≤e0.h.length){X:Nat→Bool}(hcl:qem l X){c:Ctx}{a:Act}{w:World}(inv:DInv E e0 R X c a w){i:Nat}{o:Oper}(hi:l[i]?=some o)(hXi:X i=false)
  (hdep:∀e,e∈o.after→Region.binds .any e=true→X e.on=true) (hstep:stepD P E.N ((l.take i).map (·.dst)) o (qal e0 (R.take i)) (fun r=>R[i]?=some r)) {Q:Exit→Act→World→Prop} :
  wpOp P l.toArray Q i (fun a' w'=>∃c',DInv E e0 R (fun j=>if j=i then true else X j) c' a' w') a w:=by
 obtain⟨hdok,r,hrd,hr,hrs⟩:=stepD_dst hstep;have hilt:i<l.length:=(List.getElem?_eq_some_iff.1 hi).1
 -- which operations wrote a slot of this one's
 have hslot:∀t,t∈tmpsOf o.op.operands.toList++guardSlot l o→Rel c (qbb (qal e0 (R.take i)).t t) (a.tmps.getD t undef):=by
  intro t ht;have:=inv.tmps t;rw[lookT_envAt,slotX_take];rw[qdf (Y:=X)]
  ·exact this
  ·intro j r' hr' hd;simp only[Nat.zero_add,Bool.and_true];obtain⟨o',ho',hd',_⟩:=d.dst hr';rw[hd']at hd;rcases d.ok.temps i o t j o' hi ht ho' hd with rfl|hord
   ·simp[hXi]
   ·rcases Nat.lt_trichotomy j i with h|h|h
    ·rw[Nat.min_eq_right (Nat.le_of_lt h),Nat.max_eq_left (Nat.le_of_lt h)]at hord;rw[ord_in hcl i j o hi hdep hord,decide_eq_true h]
    ·subst h;simp[hXi]
    ·rw[Nat.min_eq_left (Nat.le_of_lt h),Nat.max_eq_right (Nat.le_of_lt h)]at hord;have hXj:X j=false:=by
      cases hX:X j with
      |false=>rfl
      |true=>have:=ord_in hcl j i o' ho' (hcl j o' hX ho') hord;rw[hXi]at this;cases this
     rw[hXj,decide_eq_false (by omega)]
 have hops:∀x,x∈o.op.operands.toList→Rel c ((qal e0 (R.take i)).get x) (a.eval x):=by
  intro x hx;cases x with
  |tmp t=>exact hslot t (List.mem_append_left _ (by simp only[tmpsOf,List.mem_filterMap];exact⟨.tmp t,hx,rfl⟩))
  |const v=>exact liftK_rel c v
  |global g=>exact .top _
  |func f=>exact .fn _ [] [] #[] #[] rfl rfl (by simp) (by simp)
 have hopsS:∀L:List Operand,(∀x,x∈L→x∈o.op.operands.toList)→qaw (qal e0 (R.take i)) true L→∀x,x∈L→Rel c ((qal e0 (R.take i)).getS x) (a.eval x):=fun L hL hall x hx =>
  strip_rel (hops x (hL x hx)) (haveAll_mem hall x hx)
 -- the invariant with one operation more that makes and writes nothing
 have quiet:∀(c':Ctx) (w':World) (u:Value),(∃rd,r.k=.quiet rd)→c.le c'→HSim c' (hX R X e0.h) w'→E.ok c' (hX R X e0.h) w'→(∀n,c.blk n=none→n<(hX R X e0.h).length→c'.blk n=none)→Rel c' r.res u →
   DInv E e0 R (fun j=>if j=i then true else X j) c' (a.put o.dst u) w':=by
  rintro c' w' u ⟨rd,hk⟩ hle hs' hok' hblk hu;have hh:hX R (fun j=>if j=i then true else X j) e0.h=hX R X e0.h:=by
   unfold hX;have h1:=freshX_same (X:=X) R 0 i r hr (fun xs=>by rw[hk];simp);have h2:=applyS_add (X:=X) (R:=R) (k:=0) (i:=i) (r:=r) hr (by simpa using hXi) (.inl fun a b cs=>by rw[hk];simp);simp only[Nat.zero_add]at h1 h2;rw[h1,h2];unfold stepS;rw[hk]
  refine⟨by cases o.dst<;>exact inv.defers,by cases o.dst<;>simp[Act.put,inv.size],fun t=>?_,by rw[hh];exact hs',by rw[hh];exact hok',fun j rj xs hj hjk hXj=>?_,fun rj hrj i' off cs hjk=>?_⟩
  ·have h1:=slotX_add (X:=X) (t:=t) (k:=0) (x:=qbb e0.t t) hr (fun j r' hr' hd hn=>by
    obtain⟨o',ho',hd',_⟩:=d.dst hr';exact d.ok.uniq i o j o' hi ho' (by rw[←hrd];exact hn) (by rw[←hrd,←hd',hd]))
   simp only[Nat.zero_add]at h1;rw[h1];cases hdst:o.dst with
   |none =>
    rw[hrd,hdst,if_neg (by simp)];exact(inv.tmps t).mono hle
   |some dd =>
    have hlt:dd<a.tmps.size:=by rw[inv.size];rw[hdst]at hdok;exact hdok
    rw[hrd,hdst];by_cases hdt:dd=t
    ·subst hdt;rw[if_pos rfl];simpa[Act.put,hlt]using hu
    ·rw[if_neg (by simpa using hdt)];have:=(inv.tmps t).mono hle;simpa[Act.put,Array.getD_eq_getD_getElem?,Array.getElem?_setIfInBounds_ne hdt]using this
  ·have hji:j≠i:=fun e=>by subst e;simp at hXj
   rw[if_neg hji]at hXj;refine hblk _ (inv.nob j rj xs hj hjk hXj) ?_;rw[hX_len];have h1:=freshX_get (X:=X) R 0 j rj xs hj hjk;have:=(List.getElem?_eq_some_iff.1 h1).1;unfold nFresh;omega
  ·obtain⟨j,h1,h2⟩:=qea hrj;simp only[Nat.zero_add]at h2;by_cases hji:j=i
   ·subst hji;rw[hr]at h1;cases h1;rw[hk]at hjk;cases hjk
   ·rw[if_neg hji]at h2;have hmem:rj∈selX X 0 R:=selX_in h1 (by simpa using h2);have h1':=freshX_same (X:=X) R 0 i r hr (fun xs=>by rw[hk];simp);simp only[Nat.zero_add]at h1';rw[h1'];exact inv.fit rj hmem i' off cs hjk
 -- how the step goes on
 have hG:=hstep;unfold stepD at hG;split at hG
 ·exact hG.elim
 rename_i G hgB;obtain⟨_,hG⟩:=hG;have hwant:Region.wanted o (yielded l.toArray a.tmps)=G:=wanted_rel (l:=l) (by simp) (i:=i) (fun j want hg=>d.ok.guard i o j want hi hg) (fun t ht=>hslot t (List.mem_append_right _ ht)) hgB;have hget:(l.toArray)[i]?=some o:=by simpa using hi
 have hsz:l.toArray.size=l.length:=by simp
 have noneIdx:∀n,c.blk n=none→n<(hX R X e0.h).length→c.blk n=none:=fun _ h _=>h
 -- an operation that yields a value and leaves the heap
 have still:∀(v:AV),r.res=optV o.guard G v→(∃rd,r.k=.quiet rd)→(G=true→∃c' w' u,(execOp a.eval o).run P w=.ok (.value u) w'∧c.le c'∧HSim c' (hX R X e0.h) w'∧E.ok c' (hX R X e0.h) w'∧(∀n,c.blk n=none→n<(hX R X e0.h).length→c'.blk n=none)∧Rel c' v u) →
   wpOp P l.toArray Q i (fun a' w'=>∃c',DInv E e0 R (fun j=>if j=i then true else X j) c' a' w') a w:=by
  intro v hv hk hrun;unfold wpOp;simp only[hget];cases hGv:G with
  |true =>
   rw[if_pos (by rw[hwant,hGv])];obtain⟨c',w',u,h1,h2,h3,h4,h5,h6⟩:=hrun hGv;refine .inl (qb1 h1 ⟨c',quiet c' w' u hk h2 h3 h4 h5 ?_⟩);rw[hv,hGv];unfold optV;split
   ·exact h6
   ·exact .opt _ _ _ (fun _=>h6) (fun h=>by cases h)
  |false =>
   rw[if_neg (by rw[hwant,hGv];simp)];refine⟨c,quiet c w undef hk (.refl c) inv.hs inv.ok noneIdx ?_⟩;rw[hv,hGv];unfold optV;split
   ·rename_i hg;rw[hg]at hgB;simp only[gB,Option.some.injEq]at hgB;rw[hGv]at hgB;cases hgB
   ·exact .opt _ _ _ (fun h=>by cases h) (fun _=>rfl)
 have hgt:o.guard=none→G=true:=fun hg=>by rw[hg]at hgB;simpa[gB]using hgB.symm
 -- stores carried out do not touch an object that this operation may still read or write
 have nostore:∀j,(∀(s:Nat) (r':DR) (off:Nat) (cs:List AV),R[s]?=some r'→r'.k=.store j off cs→ordB (Region.before l.toArray) i s=true)→∀r',r'∈selX X 0 R→∀off cs,r'.k≠.store j off cs:=by
  intro j hs r' hr' off cs hk;obtain⟨s,h1,h2⟩:=qea hr';rw[Nat.zero_add]at h2;obtain⟨o',ho',_⟩:=d.dst h1;have:=ord_in hcl s i o' ho' (hcl s o' h2 ho') (hs s r' off cs h1 hk);rw[hXi]at this;cases this
 -- an object to which a pointer is at hand has been made
 have made:∀(j off:Nat) (u:Value) (xs:List AV),Rel c (.ptr j off) u→(qal e0 (R.take i)).h[j]?=some (.cells xs)→(e0.h++qa9 X 0 R)[j]?=some (.cells xs):=by
  intro j off u xs hp hj;rw[envAt_h]at hj;by_cases hjl:j<e0.h.length
  ·rw[List.getElem?_append_left hjl]at hj⊢;exact hj
  ·rw[List.getElem?_append_right (by omega)]at hj;obtain⟨f,rf,ys,h1,h2,h3,h4⟩:=qda _ _ _ _ hj;simp only[cond_true,AObj.cells.injEq]at h4;subst h4;have hfi:f<i:=by
    have:=(List.getElem?_eq_some_iff.1 h1).1;simp at this;omega
   rw[List.getElem?_take,if_pos hfi]at h1;rw[List.take_take,Nat.min_eq_left (by omega)]at h3;have hXf:X f=true:=by
    cases hX:X f with
    |true=>rfl
    |false =>
     have h5:=inv.nob f rf xs h1 h2 hX;unfold nFresh at h5;rw[h3,show e0.h.length+(j - e0.h.length)=j from by omega]at h5;obtain⟨b,_,hb⟩:=ptr_inv hp;rw[h5]at hb;cases hb
   have h6:=freshX_get (X:=X) R 0 f rf xs h1 h2;rw[h3,Nat.zero_add,hXf,cond_true]at h6;rw[List.getElem?_append_right (by omega)];exact h6
 have hsame:SameArr (qal e0 (R.take i)).h (hX R X e0.h):=hX_sameArr
 -- an operation that makes an object
 have fresh:∀(xs:List AV) (vs:Array Value) (T:TypeId),r=⟨o.dst,.ptr (qal e0 (R.take i)).h.length 0,.fresh xs⟩→o.guard=none→CellsR c xs vs→(execOp a.eval o).run P w=.ok (.value (.pointer (some ⟨w.heap.size,0,none⟩))) (w.alloc (.cells vs T)) →
   wpOp P l.toArray Q i (fun a' w'=>∃c',DInv E e0 R (fun j=>if j=i then true else X j) c' a' w') a w:=by
  intro xs vs T hrv hg hc hrun;have hn:(qal e0 (R.take i)).h.length=e0.h.length+nFresh R i:=by rw[envAt_h];simp[nFresh]
  have hk:r.k=.fresh xs:=by rw[hrv]
  have hbase:(e0.h++qa9 X 0 R)[e0.h.length+nFresh R i]?=some .none:=by
   rw[List.getElem?_append_right (by omega),Nat.add_sub_cancel_left];have:=freshX_get (X:=X) R 0 i r xs hr hk
   rwa [Nat.zero_add,hXi]at this
  have hnone:(hX R X e0.h)[e0.h.length+nFresh R i]?=some .none:=(applyS_kind _ _ _ .none (by simp)).2 hbase;obtain⟨c',hle,s',k',hb,hoth⟩:=alloc_at inv.hs inv.ok hnone (inv.nob i r xs hr hk hXi) (by omega) T hc;have hnost:∀r',r'∈selX X 0 R→∀off cs,r'.k≠.store (e0.h.length+nFresh R i) off cs:=fun r' hr' off cs hk'=>by
   obtain⟨ys,h1,_⟩:=inv.fit r' hr' _ off cs hk';rw[hbase]at h1;cases h1
  have hF:=freshX_add (X:=X) R 0 i r xs hr hk;rw[Nat.zero_add]at hF;have hF':qa9 (fun j=>if j=i then true else X j) 0 R=(qa9 X 0 R).set (nFresh R i) (.cells xs):=hF;have happ:e0.h++(qa9 X 0 R).set (nFresh R i) (.cells xs)=(e0.h++qa9 X 0 R).set (e0.h.length+nFresh R i) (.cells xs):=by
   rw[List.set_append_right _ _ (by omega),Nat.add_sub_cancel_left]
  have hh:hX R (fun j=>if j=i then true else X j) e0.h=(hX R X e0.h).set (e0.h.length+nFresh R i) (.cells xs):=by
   unfold hX;have h2:=applyS_add (X:=X) (R:=R) (k:=0) (i:=i) (r:=r) hr (by simpa using hXi) (.inl fun a b cs=>by rw[hk];simp);rw[Nat.zero_add]at h2;rw[hF',h2,happ,applyS_set hnost];unfold stepS;rw[hk]
  unfold wpOp;simp only[hget];rw[if_pos (by rw[hwant,hgt hg])];refine .inl (qb1 hrun ⟨c',⟨by cases o.dst<;>exact inv.defers,by cases o.dst<;>simp[Act.put,inv.size],fun t=>?_,by rw[hh];exact s',by rw[hh];exact k',fun j rj ys hj hjk hXj=>?_,fun rj hrj i' off cs hjk=>?_⟩⟩)
  ·have h1:=slotX_add (X:=X) (t:=t) (k:=0) (x:=qbb e0.t t) hr (fun j r' hr' hd hn=>by
    obtain⟨o',ho',hd',_⟩:=d.dst hr';exact d.ok.uniq i o j o' hi ho' (by rw[←hrd];exact hn) (by rw[←hrd,←hd',hd]))
   simp only[Nat.zero_add]at h1;rw[h1];cases hdst:o.dst with
   |none =>
    rw[hrd,hdst,if_neg (by simp)];exact(inv.tmps t).mono hle
   |some dd =>
    have hlt:dd<a.tmps.size:=by rw[inv.size];rw[hdst]at hdok;exact hdok
    rw[hrd,hdst];by_cases hdt:dd=t
    ·subst hdt;rw[if_pos rfl,hrv];simp only[Act.put,Array.getD_eq_getD_getElem?,Array.getElem?_setIfInBounds_self_of_lt hlt,Option.getD_some];rw[hn];exact .ptr _ _ _ hb
    ·rw[if_neg (by simpa using hdt)];have:=(inv.tmps t).mono hle;simpa[Act.put,Array.getD_eq_getD_getElem?,Array.getElem?_setIfInBounds_ne hdt]using this
  ·have hji:j≠i:=fun e=>by subst e;simp at hXj
   rw[if_neg hji]at hXj;rw[hoth _ fun e=>hji (nFresh_inj hj hr hjk hk (by omega))];exact inv.nob j rj ys hj hjk hXj
  ·obtain⟨j,h1,h2⟩:=qea hrj;simp only[Nat.zero_add]at h2;by_cases hji:j=i
   ·subst hji;rw[hr]at h1;cases h1;rw[hk]at hjk;cases hjk
   ·rw[if_neg hji]at h2;obtain⟨zs,h3,h4⟩:=inv.fit rj (selX_in h1 (by simpa using h2)) i' off cs hjk;refine⟨zs,?_,h4⟩;rw[hF',happ,List.getElem?_set_ne]
    ·exact h3
    ·intro e;rw[e]at hbase;rw[hbase]at h3;cases h3
 split at hG
 ·
  rename_i x y z hop;obtain⟨hp,hr'⟩:=hG;rw[hr]at hr';cases hr';refine still _ rfl ⟨_,rfl⟩ fun hGt=>?_;rw[hGt]at hp;have m:=hops;rw[hop]at m;obtain⟨b,hb,hrel⟩:=pick_rel (m x (by simp[Op.operands])) (m y (by simp[Op.operands])) (m z (by simp[Op.operands])) hp;exact⟨c,w,_,by simp only[execOp,hop,hb,asBool,Sem.run_bind,Sem.run_pure,Result.andThen_ok],.refl c,inv.hs,inv.ok,noneIdx,hrel⟩
 ·
  rename_i T x hop;obtain⟨hg,hall,hok,hr'⟩:=hG;rw[hr]at hr';have hrel:=hopsS [x] (by rw[hop];simp[Op.operands]) hall x (by simp);exact fresh _ _ T (by simpa using hr') hg (hrel.cells hok) (by simp only[execOp,hop,Instr.box,newVar,newRow,Sem.run_bind,qc2,Sem.run_pure,Result.andThen_ok])
 ·
  rename_i T hop;obtain⟨hg,hk,hr'⟩:=hG;rw[hr]at hr';obtain⟨iT,dT,z,h1,h2,h3,h4,h5,h6,h7,h8⟩:=qas (P:=P) (t:=T) rfl hk;rw[h6]at hr';have hzv:(zeroValue T).run P w=.ok z w:=by simp[zeroValue,run_typeInfo _ h1,h3]
  exact fresh _ _ T (by simpa using hr') hg (zero_cells c h8) (by simp only[execOp,hop,Instr.alloc,newVar,newRow,Sem.run_bind,hzv,qc2,Sem.run_pure,Result.andThen_ok])
 ·
  rename_i T ad x hop;obtain⟨hg,hdn,hall,hke,hok,hsz',hG⟩:=hG;split at hG
  ·rename_i j off had;split at hG
   ·rename_i xs hj;obtain⟨hle',hr'⟩:=hG;rw[hr]at hr';simp only[Option.some.injEq]at hr';have hk:r.k=.store j off ((qal e0 (R.take i)).getS x).cells:=by rw[hr']
    have hra:=hopsS [ad,x] (by rw[hop];simp[Op.operands]) hall ad (by simp);have hrx:=hopsS [ad,x] (by rw[hop];simp[Op.operands]) hall x (by simp);rw[had]at hra;have hbase:=made j off _ xs hra hj;obtain⟨ys,hy,hyl⟩:=applyS_cells (l:=selX X 0 R) (fun r' hr' i' off' cs hk' zs hz=>by
     obtain⟨us,g1,g2⟩:=inv.fit r' hr' i' off' cs hk';rw[hz]at g1;cases g1;exact g2) hbase
    obtain⟨w',hrun,s',k'⟩:=store_run (E:=E) inv.hs inv.ok hop hra hrx hy hok hsz' hke (by omega);have hF:=freshX_same (X:=X) R 0 i r hr (fun xs=>by rw[hk];simp);rw[Nat.zero_add]at hF;have hst:isStore o.op=true:=by rw[hop];rfl
    have h2:=applyS_add (X:=X) (R:=R) (k:=0) (i:=i) (r:=r) hr (by simpa using hXi) (.inr fun m r' hm him hXm b1 b2 b3 hkm=>by
     rw[Nat.zero_add]at hXm;obtain⟨o',ho',_,hst'⟩:=d.dst hm;have:=ord_in hcl m i o' ho' (hcl m o' hXm ho') (d.ok.stores i o m o' hi ho' him hst (hst' ⟨b1,b2,b3,hkm⟩));rw[hXi]at this;cases this)
    rw[Nat.zero_add]at h2;have hh:hX R (fun j=>if j=i then true else X j) e0.h=(hX R X e0.h).set j (.cells (splice ys off ((qal e0 (R.take i)).getS x).cells)):=by
     have hy':(hX R X e0.h)[j]?=some (.cells ys):=hy;show qce _ _=_;rw[hF,h2];show stepS r (hX R X e0.h)=_;unfold stepS;rw[hk];simp only[hy']
    unfold wpOp;simp only[hget];rw[if_pos (by rw[hwant,hgt hg])];refine .inl (wp_skipV hrun ⟨c,⟨by rw[hdn];exact inv.defers,by rw[hdn];exact inv.size,fun t=>?_,by rw[hh];exact s',by rw[hh];exact k',fun m rm zs hm hmk hXm=>?_,fun rm hrm i' off' cs hmk=>?_⟩⟩)
    ·have h1:=slotX_add (X:=X) (t:=t) (k:=0) (x:=qbb e0.t t) hr (fun m r' hr' hd hn=>by
      rw[hrd,hdn]at hn;exact(hn rfl).elim)
     simp only[Nat.zero_add]at h1;rw[h1,hrd,hdn,if_neg (by simp)];exact inv.tmps t
    ·have hmi:m≠i:=fun e=>by subst e;simp at hXm
     rw[if_neg hmi]at hXm;exact inv.nob m rm zs hm hmk hXm
    ·obtain⟨m,h3,h4⟩:=qea hrm;simp only[Nat.zero_add]at h4;rw[hF];by_cases hmi:m=i
     ·subst hmi;rw[hr]at h3;cases h3;rw[hk]at hmk;cases hmk;exact⟨xs,hbase,hle'⟩
     ·rw[if_neg hmi]at h4;exact inv.fit rm (selX_in h3 (by simpa using h4)) i' off' cs hmk
   ·exact hG.elim
  ·exact hG.elim
 ·
  rename_i T n parts hop;split at hG
  ·rename_i el sz hk;split at hG
   ·rename_i rows hrows;obtain⟨hg,hall,hn,hpos,h24,hke,hsz',hr'⟩:=hG;rw[hr]at hr';cases hr';refine still (.slice rows) rfl ⟨_,rfl⟩ fun hGt=>?_;have hrel:=hopsS (parts.toList.map (·.2)) (by rw[hop];simp[Op.operands]) hall
    rw[litRows_congr hsame]at hrows;obtain⟨v,w',c',hrun,hle,s',k',hr'⟩:=lit_ok (P:=P) (E:=⟨E.N,c,hX R X e0.h,w⟩) inv.hs (Ent.ok.refl _ inv.hs) hk (parts:=parts.toList.map fun p=>(p.1,(qal e0 (R.take i)).getS p.2)) (qs:=parts.map fun p=>(p.1,a.eval p.2)) (by simp) (fun j p q hp hq=>by
     simp only[List.getElem?_map,Option.map_eq_some_iff]at hp;obtain⟨x,hx,rfl⟩:=hp;simp only[Array.getElem?_map,Option.map_eq_some_iff]at hq;obtain⟨y,hy,rfl⟩:=hq;have:x=y:=by simpa[hy]using hx.symm
     subst this;exact⟨rfl,hrel x.2 (List.mem_map.2 ⟨x,List.mem_of_getElem? hx,rfl⟩)⟩) hrows hn hpos h24 hke hsz'
    exact⟨c',w',v,by simp only[execOp,hop,Sem.run_bind,hrun,Sem.run_pure,Result.andThen_ok],hle,s',inv.ok.trans k',fun n h1 h2=>by rw[k'.blk0 n h2];exact h1,hr'⟩
   ·split at hG
    ·rename_i cs hcs;obtain⟨hg,hall,hpos,h24,hke,hsz',hr'⟩:=hG;rw[hr]at hr';cases hr';refine still (.lit cs) rfl ⟨_,rfl⟩ fun hGt=>?_;have hrel:=hopsS (parts.toList.map (·.2)) (by rw[hop];simp[Op.operands]) hall
     obtain⟨v,w',c',hrun,hle,s',k',hr'⟩:=lit1_ok (P:=P) (E:=⟨E.N,c,hX R X e0.h,w⟩) inv.hs (Ent.ok.refl _ inv.hs) hk (parts:=parts.toList.map fun p=>(p.1,(qal e0 (R.take i)).getS p.2)) (qs:=parts.map fun p=>(p.1,a.eval p.2)) (by simp) (fun j p q hp hq=>by
      simp only[List.getElem?_map,Option.map_eq_some_iff]at hp;obtain⟨x,hx,rfl⟩:=hp;simp only[Array.getElem?_map,Option.map_eq_some_iff]at hq;obtain⟨y,hy,rfl⟩:=hq;have:x=y:=by simpa[hy]using hx.symm
      subst this;exact⟨rfl,hrel x.2 (List.mem_map.2 ⟨x,List.mem_of_getElem? hx,rfl⟩)⟩) hcs hpos h24 hke hsz'
     exact⟨c',w',v,by simp only[execOp,hop,Sem.run_bind,hrun,Sem.run_pure,Result.andThen_ok],hle,s',inv.ok.trans k',fun n h1 h2=>by rw[k'.blk0 n h2];exact h1,hr'⟩
    ·exact hG.elim
  ·exact hG.elim
 ·
  rename_i f args ts hop;split at hG
  ·rename_i fid first caps hf
   obtain⟨rv,hp,hr'⟩:=hG;rw[hr]at hr';cases hr';unfold wpOp;simp only[hget];cases hGv:G with
   |true =>
    rw[if_pos (by rw[hwant,hGv])];obtain⟨hall,hp⟩:=hp hGv;have hrel:=hopsS (f::args.toList) (by rw[hop];simp[Op.operands,Call.operands]) hall;rw[normL_congr hsame]at hp;refine .inl (call_rel (E:=⟨E.N,c,hX R X e0.h,w⟩) inv.hs (Ent.ok.refl _ inv.hs) hop hrel hf (hp _ hX_raw) (fun v h' c' w' u hR hle hs' hk' hru=>?_) (fun v h' hR=>by cases hR.1));obtain⟨h1,rfl⟩:=hR;cases h1;refine⟨c',quiet c' w' u ⟨_,rfl⟩ hle hs' (inv.ok.trans hk') (fun n h1 h2=>by rw[hk'.blk0 n h2];exact h1) ?_⟩;show Rel c' (optV o.guard G rv) u;rw[hGv];unfold optV;split
    ·exact hru
    ·exact .opt _ _ _ (fun _=>hru) (fun h=>by cases h)
   |false =>
    rw[if_neg (by rw[hwant,hGv];simp)];refine⟨c,quiet c w undef ⟨_,rfl⟩ (.refl c) inv.hs inv.ok noneIdx ?_⟩;show Rel c (optV o.guard G rv) undef;rw[hGv];unfold optV;split
    ·rename_i hg;rw[hgt hg]at hGv;cases hGv
    ·exact .opt _ _ _ (fun h=>by cases h) (fun _=>rfl)
  ·exact hG.elim
 ·
  rename_i op hb1 hb2 hb3 hb4 hb5 hb6;obtain⟨hside,hr'⟩:=hG;rw[hr]at hr';cases hr';refine still _ rfl ⟨_,rfl⟩ fun hGt=>?_;obtain⟨hall,hs⟩:=hside hGt;have hrel:=hopsS _ (fun x hx=>hx) hall;have hheap:qbp P (qal e0 (R.take i)).getS (qal e0 (R.take i)).h o.op=qbp P (qal e0 (R.take i)).getS (hX R X e0.h) o.op:=opStill_heap hX_sameArr (fun j hj=>by
   obtain⟨t,ad,off,hop,had⟩:∃t ad off,o.op=.load t ad∧(qal e0 (R.take i)).getS ad=.ptr j off:=by
    revert hj
    unfold rdOf;split
    ·rename_i t ad hop';intro hj;split at hj
     ·rename_i i' off ha;simp only[Option.some.injEq]at hj;subst hj;exact⟨t,ad,off,hop',ha⟩
     ·cases hj
    ·intro hj;cases hj
   have hs2:=hs;rw[hop]at hs2;simp only[qbp,aLoadAt,had]at hs2;split at hs2
   ·rename_i xs hxs;have hp:=hrel ad (by rw[hop];simp[Op.operands]);rw[had]at hp;have h1:=made j off _ xs hp hxs;have hno:=nostore j fun s r' off cs hs hk=>(d.sep i s _ r' j off cs hr (by simp only[hj]) hs hk).2;rw[hxs];unfold hX;rw[applyS_other hno,h1]
   ·exact hs2.elim) hX_map
  rw[hheap]at hs⊢;obtain⟨v,h1,h2⟩:=still_ok inv.hs hrel hs;exact⟨c,w,v,h1,.refl c,inv.hs,inv.ok,noneIdx,h2⟩
end
end Go.Abs
