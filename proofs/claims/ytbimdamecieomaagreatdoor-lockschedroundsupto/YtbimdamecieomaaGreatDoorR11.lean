/- Part 11 of a proof. -/
import Derived.Test.YtbimdamecieomaaGreatDoorR10
set_option linter.all false
namespace Go.Abs
section
variable {P:Program} {E:Ent}
theorem jdg{c:Ctx}{h:gz}{a:Act}{w:World}(hs:HSim c h w)(k:E.ok c h w){o:Oper}{f:Operand}{args:Array Operand}{ts:Array TypeId}(ho:o.op=.call { callee:=.value f,args:=args,argTypes:=ts })
  {g:Operand→AV} (jz:∀x,x∈f::args.toList→Rel c (g x) (a.eval x)) {fid:FuncId} {first caps:List AV} (hf:g f=.fn (.func fid) first caps) {R:AEnd→gz→Prop}
  (hc:ACalls P fid (kc h (first++args.toList.map g++caps)) h R) {next:Act→World→Prop} {Q:Exit→Act→World→Prop}
  (vt:∀v h' c' w' u,R (.ret v) h'→c.le c'→HSim c' h' w'→E.ok c' h' w'→Rel c' v u→next (a.put o.dst u) w') (qwp:∀v h',¬R (.panic v) h'):o.wp P a w next Q:=by
 have xd:=jz f ae;rw[hf]at xd;obtain⟨us,vs,hev,h1,h2⟩:∃us vs,a.eval f=.func (.func fid) us vs∧RelL c first us∧RelL c caps vs:=by
  generalize a.eval f=z at xd;cases xd with
  |data h=>cases h
  |fn f ys xs us vs pf hl h' h=>exact⟨us,vs,rfl,⟨pf,h'⟩,⟨hl,h⟩⟩
 have qrh:RelL c (args.toList.map g) (args.map a.eval):=RelL.map fun x hx=>jz x bt;have xbg:=(RelL.app (RelL.app h1 qrh) h2).norm hs;obtain⟨s1,k1⟩:=qx1 hs k;unfold Oper.wp;rw[qxz ho hev hc.1];refine(hc.2 _ w _ s1 xbg).mono ?_;rintro en w' ⟨r,h',c',hR,hE,jd,kb⟩;have ig:c.le c':=(qxd c h w).trans kb.ext;have jm:E.ok c' h' w':=k1.trans kb;cases r with
 |ret v =>
  cases en with
  |returned u=>exact vt v h' c' w' u hR ig jd jm hE
  |_=>simp[EndR]at hE
 |panic v=>exact(qwp v h' hR).elim
theorem jhm{ops:Array Oper}{l:List Oper}(te:ops.toList=l){i:Nat}{c:Ctx}{e:Env}{a:Act}{o:Oper}(x8:∀j want,o.guard=some (j,want)→j<i)
  (hr:∀t,t∈qz8 l o→Rel c (kj e.t t) (a.tmps.getD t undef)) {G:Bool} (h:gB ((l.take i).map (·.dst)) e o.guard=some G):Region.wanted o (yielded ops a.tmps)=G:=by
 unfold gB at h;unfold Region.wanted;split at h
 ·rename_i hg;simp only[hg];simpa using h
 ·rename_i j want hg;simp only[hg];have mo:=x8 j want hg;split at h
  ·rename_i t ht;have hj:(ops[j]?).bind (·.dst)=some t:=by
    simp only[dq,dn,dx,if_pos mo]at ht;obtain⟨o',ky,hd⟩:=ht;have:ops[j]?=some o':=by rw[←te]at ky;simpa using ky
    simp[this,hd]
   have oq:(l[j]?).bind (·.dst)=some t:=by rw[←te];simpa using hj
   have hr:=hr t (by simp[qz8,hg,oq]);have hy:∀b,a.tmps.getD t undef=.bool b→yielded ops a.tmps j=some b:=fun b hb=>by
    unfold yielded;rw[hj];simp only[f5];simp only[ed]at hb;cases ht':a.tmps[t]? with
    |none=>rw[ht']at hb;simp[undef]at hb
    |some v=>rw[ht']at hb;simp at hb;subst hb;rfl
   split at h
   ·rename_i b hb;rw[hb]at hr;rw[hy b hr.val_inv];simp only[d7]at h;rw[←h];cases b<;>cases want<;>rfl
   ·rename_i g b hb;rw[hb]at hr;simp only[d7]at h;cases g with
    |true =>
     have je:Rel c (.val (.bool b)) (a.tmps.getD t undef):=by
      cases hr with
      |data h=>cases h
      |opt g x v h hn=>exact h rfl
     rw[hy b je.val_inv,←h];cases b<;>cases want<;>rfl
    |false =>
     have hu:a.tmps.getD t undef=undef:=by
      cases hr with
      |data h=>cases h
      |opt g x v h hn=>exact hn rfl
     have:yielded ops a.tmps j=none:=by
      unfold yielded;rw[hj];simp only[f5];simp only[ed]at hu;cases ht':a.tmps[t]? with
      |none=>rfl
      |some v=>rw[ht']at hu;simp at hu;subst hu;rfl
     rw[this,←h];rfl
   ·rename_i x hnb hb;rw[hb]at hr;simp only[d7]at h;have hu:a.tmps.getD t undef=undef:=by
     cases hr with
     |data h=>cases h
     |opt g x v h hn=>exact hn rfl
    have:yielded ops a.tmps j=none:=by
     unfold yielded;rw[hj];simp only[f5];simp only[ed]at hu;cases ht':a.tmps[t]? with
     |none=>rfl
     |some v=>rw[ht']at hu;simp at hu;subst hu;rfl
    rw[this,←h];rfl
   ·cases h
  ·cases h
theorem qxp{N:Nat}{ds:List (Option Tmp)}{o:Oper}{e:Env}{K:DR→Prop}(h:uy P N ds o e K):yw N o.dst∧∃r,r.dst=o.dst∧K r∧((∃i off cs,r.k=.store i off cs)→qtm o.op=true):=by
 unfold uy at h;split at h
 ·exact h.elim
 ·rename_i G hG;obtain⟨hd,h⟩:=h;refine⟨hd,?_⟩;split at h
  ·exact⟨_,rfl,h.2,qfr⟩
  ·exact⟨_,rfl,h.2.2.2,qfr⟩
  ·exact⟨_,rfl,h.2.2,qfr⟩
  ·rename_i T a x jy;obtain⟨h1,h2,h3,h4,h5,h6,h7⟩:=h;split at h7
   ·split at h7
    ·exact⟨_,h2.symm,h7.2,fun _=>by simp[qtm,jy]⟩
    ·exact h7.elim
   ·exact h7.elim
  ·split at h
   ·split at h
    ·exact⟨_,rfl,h.2.2.2.2.2.2.2,qfr⟩
    ·split at h
     ·exact⟨_,rfl,h.2.2.2.2.2.2,qfr⟩
     ·exact h.elim
   ·exact h.elim
  ·split at h
   ·obtain⟨r,h1,h2⟩:=h;exact⟨_,rfl,h2,qfr⟩
   ·exact h.elim
  ·exact⟨_,rfl,h.2,qfr⟩
def hX(R:List DR)(X:Nat→Bool)(h:gz):gz:=rp (td X 0 R) (h++m9 X 0 R)
structure DInv(E:Ent)(e0:Env)(R:List DR)(X:Nat→Bool)(c:Ctx)(a:Act)(w:World):Prop where
 defers:a.defers=[]
 size:a.tmps.size=E.N
 tmps:∀t,Rel c (wa X t 0 R (kj e0.t t)) (a.tmps.getD t undef)
 hs:HSim c (hX R X e0.h) w
 ok:E.ok c (hX R X e0.h) w
 nob:∀i r xs,R[i]?=some r→r.k=.fresh xs→X i=false→c.blk (e0.h.length+qo0 R i)=none
 fit:∀r,r∈td X 0 R→∀i off cs,r.k=.store i off cs→∃xs,(e0.h++m9 X 0 R)[i]?=some (.cells xs)∧off+cs.length≤xs.length
theorem jdb(R:List DR)(X:Nat→Bool)(h:gz):(hX R X h).length=h.length+(m9 X 0 R).length:=by
 unfold hX;rw[jjs];simp
theorem xvg{R:List DR}{X:Nat→Bool}{e0:Env}{i:Nat}:qum (ja e0 (R.take i)).h (hX R X e0.h):=by
 intro j o hoa;have nz:∀xs,o≠AObj.cells xs:=fun xs h=>by subst h;cases hoa
 have hnn:o≠AObj.none:=fun h=>by subst h;cases hoa
 rw[qxj];unfold hX;rw[xfy _ _ _ _ nz];by_cases hj:j<e0.h.length
 ·rw[cu hj,cu hj]
 ·rw[cy aa,cy aa];constructor
  ·intro h;obtain⟨i',r,xs,_,_,_,h4⟩:=qdt _ _ _ _ h;exact(nz xs h4).elim
  ·intro h;obtain⟨i',r,xs,_,_,_,h4⟩:=qdt _ _ _ _ h;rw[db]at h4;cases hX:X i' with
   |true=>rw[hX]at h4;exact(nz xs h4).elim
   |false=>rw[hX]at h4;exact(hnn h4).elim
theorem jca{R:List DR}{X:Nat→Bool}{e0:Env}{i:Nat}(j:Nat)(es:List (AV×AV)):(ja e0 (R.take i)).h[j]?=some (.map es)↔(hX R X e0.h)[j]?=some (.map es):=by
 rw[qxj];unfold hX;rw[xfy _ _ _ _ ae];by_cases hj:j<e0.h.length
 ·rw[cu hj,cu hj]
 ·rw[cy aa,cy aa];constructor
  ·intro h;obtain⟨i',r,xs,_,_,_,h4⟩:=qdt _ _ _ _ h;simp at h4
  ·intro h;obtain⟨i',r,xs,_,_,_,h4⟩:=qdt _ _ _ _ h;rw[db]at h4;cases hX:X i'<;>simp[hX]at h4
theorem jfw{R:List DR}{X:Nat→Bool}{e0:Env}{i:Nat}:xvb (ja e0 (R.take i)).h (hX R X e0.h):=by
 intro j o ho;have nz:∀xs,o≠AObj.cells xs:=fun xs h=>by subst h;cases ho
 rw[qxj];unfold hX;rw[xfy _ _ _ _ nz];by_cases hj:j<e0.h.length
 ·rw[cu hj,cu hj];exact id
 ·rw[cy aa,cy aa];intro h;obtain⟨i',r,xs,_,_,_,h4⟩:=qdt _ _ _ _ h;exact(nz xs h4).elim
theorem ji2{c:Ctx}{h:gz}{w:World}(s:HSim c h w)(k:E.ok c h w){n:Nat}(hn:h[n]?=some .none)(hb:c.blk n=none)(hE:E.h.length≤n){xs:List AV}{vs:Array Value}(T:TypeId)(hc:qsa c xs vs) :
  ∃c',c.le c'∧HSim c' (h.set n (.cells xs)) (w.alloc (.cells vs T))∧E.ok c' (h.set n (.cells xs)) (w.alloc (.cells vs T))∧c'.blk n=some w.heap.size∧∀i,i≠n→c'.blk i=c.blk i:=by
 have hw:∀b,b<w.heap.size→(w.alloc (.cells vs T)).heap[b]?=w.heap[b]?:=fun b hb=>heap_alloc_old w _ b hb;have s1:HSim c h (w.alloc (.cells vs T)):=s.ext hw (.refl c) (fun _ _=>rfl) (fun _ _ _ h=>.inl h) s.dom;have k1:E.ok c h (w.alloc (.cells vs T)):=k.ext' s hw (.refl c) (fun _=>rfl) rfl rfl rfl (qfg w _) (fun _ _ _ h=>.inl h);have ig:c.le (c.addBlk n w.heap.size):=Ctx.addBlk_le hb;have sn:(c.addBlk n w.heap.size).blk n=some w.heap.size:=qh4;have ib:n<h.length:=(cq.1 hn).1;have hbn:∀b',jb (c.addBlk n w.heap.size) n (.cells xs)=some b'→b'=w.heap.size:=fun b' il=>by
  simp only[jb,sn,d7]at il;exact il.symm
 refine⟨_,ig,⟨s1.data,fun i hi=>?_,fun i o hi=>?_,fun i j o o' b hi hj qi hbj=>?_,fun i o b j v hi qi hD=>?_⟩,⟨k.edom,k.ext.trans ig,fun m hm=>by
   simp only[Ctx.addBlk];rw[if_neg aa];exact k.blk0 m hm,bz,k1.os,k1.tape,k1.output,k1.size,k1.frame,fun i o b hi qi=>?_,k1.dold⟩,sn,fun i hi=>by simp[Ctx.addBlk,hi]⟩
 ·have ke:h.length≤i:=qf1;have:=s.dom i ke;refine⟨?_,this.2⟩;simp only[Ctx.addBlk];rw[if_neg aa];exact this.1
 ·rcases l7 hi with⟨rfl,rfl⟩|⟨ii,h1⟩
  ·exact⟨_,vs,T,sn,heap_alloc_new w _,hc.1,fun j x v hx hv=>⟨(hc.2 j x v hx hv).1.mono ig,(hc.2 j x v hx hv).2⟩⟩
  ·exact(s1.obj i o h1).keep ig (fun _=>rfl) fun _ _=>rfl
 ·rcases l7 hi with⟨rfl,rfl⟩|⟨ii,h1⟩<;>rcases l7 hj with⟨h5,h6⟩|⟨hne',h2⟩
  ·exact h5.symm
  ·rw[(s1.obj j o' h2).blk ig]at hbj;have:=hbn b qi;subst this;exact(s.fresh (ct _) j o' h2 hbj).elim
  ·subst h5;subst h6;rw[(s1.obj i o h1).blk ig]at qi;have:=hbn b hbj;subst this;exact(s.fresh (ct _) i o h1 qi).elim
  ·rw[(s1.obj i o h1).blk ig]at qi;rw[(s1.obj j o' h2).blk ig]at hbj;exact s.apart i j o o' b h1 h2 qi hbj
 ·rcases l7 hi with⟨rfl,rfl⟩|⟨ii,h1⟩
  ·have:=hbn b qi;subst this;have o6:c.D w.heap.size j=some v:=hD;rw[s.noD (ct _) j]at o6;cases o6
  ·rw[(s1.obj i o h1).blk ig]at qi;exact s.sep i o b j v h1 qi hD
 ·rcases l7 hi with⟨rfl,rfl⟩|⟨ii,h1⟩
  ·have:=hbn b qi;subst this;exact .inr k.size
  ·rw[(s1.obj i o h1).blk ig]at qi;exact k.newobj i o b h1 qi
theorem xxp{c:Ctx}{h:gz}{w:World}(hs:HSim c h w)(k:E.ok c h w){o:Oper}{ev:Operand→Value}{T:TypeId}{ad x:Operand}(jy:o.op=.store T ad x){i off:Nat}{xs:List AV}{y:AV}(x9:Rel c (.ptr i off) (ev ad))(l8:Rel c y (ev x))
  (hi:h[i]?=some (.cells xs)) (jm:y.cellsOk=true) (jq:y.cells.length=iy P T) (hk:ij P T≠.other) (ig:off+y.cells.length≤xs.length) :
  ∃w',(execOp ev o).run P w=.ok .skip w'∧HSim c (h.set i (.cells (qxh xs off y.cells))) w'∧E.ok c (h.set i (.cells (qxh xs off y.cells))) w':=by
 obtain⟨b,zw,hb⟩:=qv8 x9;obtain⟨h1,h2⟩:=l8.cells jm;obtain⟨b',vs,T',g1,g2,g3,g4⟩:=hs.obj i _ hi;rw[hb]at g1;cases g1;obtain⟨iT,d,z,t1,t2,t3,t4,t5,_⟩:=lj (P:=P) (t:=T) rfl hk;have m7:∀v,v∈(ev x).cells.toList→v.oneCell'=true:=fun v hv=>by
  obtain⟨j,hj⟩:=dv hv;have ib:j<y.cells.length:=by rw[←h1];have:=(cq.1 hj).1;simpa using this
  exact(h2 j _ v qi0 bf).2
 have jx:=run_storeCells_at P b off T' (ev x).cells.toList 0 vs w g2 (by simp[h1,g3];omega) m7;simp only[d6]at jx;have pr:(ev x).cells.size=iT.size:=by rw[h1,jq,t5]
 have mj:(execOp ev o).run P w=.ok .skip (w.setRow b (vs.toList.take off++(ev x).cells.toList++vs.toList.drop (off+(ev x).cells.toList.length)).toArray):=by
  simp only[execOp,jy,Instr.storeAt,zw,Instr.sureAddr,storeVar,dh,dy,dj,z8 t1,pr,ne_eq,not_true_eq_false,if_false,jx]
 have ym:qsa c (qxh xs off y.cells) (vs.toList.take off++(ev x).cells.toList++vs.toList.drop (off+(ev x).cells.toList.length)).toArray:=by
  unfold qxh;have hl2:(ev x).cells.toList.length=y.cells.length:=av;refine⟨qjy,fun j y' v hy hv=>?_⟩;have ph:(vs.toList.take off++(ev x).cells.toList++vs.toList.drop (off+(ev x).cells.toList.length))[j]?=some v:=bx;rw[hl2]at ph;by_cases y6:j<off
  ·rw[dr,cu am,dx,if_pos y6]at hy;rw[dr,cu am,dx,if_pos y6]at ph;exact g4 j y' v hy qht
  ·by_cases hj2:j<off+y.cells.length
   ·rw[dr,cy am,cu am]at hy;rw[dr,cy am,cu am]at ph;have m1:min off xs.length=off:=aa;have m2:min off vs.size=off:=aa;simp only[du,m1]at hy;simp only[du,qlq,m2]at ph;exact h2 _ y' v hy qht
   ·rw[cy am,ez]at hy;rw[cy (by simp[h1];omega),ez]at ph;simp only[cz,du]at hy;simp only[cz,du,qlq,h1]at ph;rw[show off+y.cells.length+(j - (min off xs.length+y.cells.length))=j from by omega]at hy;rw[show off+y.cells.length+(j - (min off vs.size+y.cells.length))=j from by omega]at ph;exact g4 j y' v hy qht
 obtain⟨s',k'⟩:=xuv hs k hi hb g2 ym.1 ym.2;exact⟨_,mj,s',k'⟩
theorem xze{l:List DR}{n:Nat}{o:AObj}:∀{h:gz},(∀r,r∈l→∀off cs,r.k≠.store n off cs)→rp l (h.set n o)=(rp l h).set n o:=by
 induction l with
 |nil=>intro h _;rfl
 |cons r l ih =>
  intro h iz;rw[za,fu,←za,za (r::l),fu,←za];have h1:vn r (h.set n o)=(vn r h).set n o:=by
   unfold vn;split
   ·rename_i i off cs hk;have ii:n≠i:=fun e=>iz r ae off cs (by rw[hk,e]);rw[dm ii];split
    ·rename_i xs heq;simp only[heq];rw[List.set_comm _ _ ii]
    ·rfl
   ·rfl
  rw[h1,ih fun r' hr=>iz r' qg0]
theorem jdi{R:List DR}{i j:Nat}{ri rj:DR}{xi xj:List AV}(hi:R[i]?=some ri)(hj:R[j]?=some rj)(hki:ri.k=.fresh xi)(hkj:rj.k=.fresh xj)(h:qo0 R i=qo0 R j):i=j:=by
 have h1:=qzf (X:=fun m=>decide (m=i)) R 0 i ri xi hi hki;have h2:=qzf (X:=fun m=>decide (m=i)) R 0 j rj xj hj hkj;unfold qo0 at h;rw[h,h2]at h1;by_cases he:j=i
 ·exact he.symm
 ·simp[he]at h1
theorem xgd{X:Nat→Bool}{r:DR}:∀{R:List DR} {k j:Nat},R[j]?=some r→X (k+j)=true→r∈td X k R
 | [],_,_,h,_=>by simp at h
 |b::R,k,0,h,hX=>by simp at h;subst h;simp only[d6]at hX;simp[td,hX]
 |b::R,k,j+1,h,hX=>by
  have:=xgd (X:=X) (R:=R) (k:=k+1) (j:=j) bh (by rwa [show k+1+j=k+(j+1)from by omega]);simp only[td];cases X k<;>simp[this]
end
section
variable {P:Program} {E:Ent}
structure DRegW(l:List Oper)(R:List DR):Prop where
 ok:DrawOk l
 len:R.length=l.length
 dst:∀{k:Nat} {r:DR},R[k]?=some r→∃o,l[k]?=some o∧r.dst=o.dst∧((∃i off cs,r.k=.store i off cs)→qtm o.op=true)
 sep:∀(k s:Nat) (r r':DR) (i off:Nat) (cs:List AV),R[k]?=some r→r.k=.quiet (some i)→R[s]?=some r'→r'.k=.store i off cs→k<s∧sf (Region.before l.toArray) k s=true
structure DReg(P:Program)(E:Ent)(l:List Oper)(e0:Env)(R:List DR):Prop where
 ok:DrawOk l
 len:R.length=l.length
 step:∀(k:Nat) (o:Oper),l[k]?=some o→uy P E.N ((l.take k).map (·.dst)) o (ja e0 (R.take k)) (fun r=>R[k]?=some r)
 sep:∀(k s:Nat) (r r':DR) (i off:Nat) (cs:List AV),R[k]?=some r→r.k=.quiet (some i)→R[s]?=some r'→r'.k=.store i off cs→k<s∧sf (Region.before l.toArray) k s=true
theorem DReg.weak{l:List Oper}{e0:Env}{R:List DR}(d:DReg P E l e0 R):DRegW l R where
 ok:=d.ok
 len:=d.len
 sep:=d.sep
 dst:=fun {k r} hr=>by
  have ib:k<l.length:=by rw[←d.len];exact(cq.1 hr).1
  obtain⟨_,r',h1,h2,h3⟩:=qxp (d.step k l[k] bp);rw[hr]at h2;cases h2;exact⟨l[k],bp,h1,h3⟩
theorem xc6{l:List Oper}{e0:Env}{R:List DR}(d:DRegW l R)(hE0:E.h.length≤e0.h.length){X:Nat→Bool}(l9:qqg l X){c:Ctx}{a:Act}{w:World}(inv:DInv E e0 R X c a w){i:Nat}{o:Oper}(hi:l[i]?=some o)(wh:X i=false)
  (qtn:∀e,e∈o.after→Region.binds .any e=true→X e.on=true) (quz:uy P E.N ((l.take i).map (·.dst)) o (ja e0 (R.take i)) (fun r=>R[i]?=some r)) {Q:Exit→Act→World→Prop} :
  wpOp P l.toArray Q i (fun a' w'=>∃c',DInv E e0 R (fun j=>if j=i then true else X j) c' a' w') a w:=by
 obtain⟨hdok,r,wo,hr,hrs⟩:=qxp quz;have qyu:i<l.length:=(cq.1 hi).1
 -- which operations wrote a slot of this one's
 have hslot:∀t,t∈tmpsOf o.op.operands.toList++qz8 l o→Rel c (kj (ja e0 (R.take i)).t t) (a.tmps.getD t undef):=by
  intro t ht;have:=inv.tmps t;rw[xec,xi2];rw[qet (Y:=X)]
  ·exact this
  ·intro j r' je hd;simp only[db,fl];obtain⟨o',ky,ws,_⟩:=d.dst je;rw[ws]at hd;rcases d.ok.temps i o t j o' hi ht ky hd with rfl|qon
   ·simp[wh]
   ·rcases qmc j i with h|h|h
    ·rw[Nat.min_eq_right (fp h),Nat.max_eq_left (fp h)]at qon;rw[qrc l9 i j o hi qtn qon,decide_eq_true h]
    ·subst h;simp[wh]
    ·rw[gj (fp h),Nat.max_eq_right (fp h)]at qon;have hXj:X j=false:=by
      cases hX:X j with
      |false=>rfl
      |true=>have:=qrc l9 j i o' ky (l9 j o' hX ky) qon;rw[wh]at this;cases this
     rw[hXj,decide_eq_false aa]
 have te:∀x,x∈o.op.operands.toList→Rel c ((ja e0 (R.take i)).get x) (a.eval x):=by
  intro x hx;cases x with
  |tmp t=>exact hslot t (List.mem_append_left _ (by simp only[tmpsOf,List.mem_filterMap];exact⟨.tmp t,hx,rfl⟩))
  |const v=>exact xtk c v
  |global g=>exact .top _
  |func f=>exact .fn _ [] [] #[] #[] rfl rfl ae ae
 have qyz:∀L:List Operand,(∀x,x∈L→x∈o.op.operands.toList)→l6 (ja e0 (R.take i)) true L→∀x,x∈L→Rel c ((ja e0 (R.take i)).getS x) (a.eval x):=fun L hL ix x hx =>
  xcw (te x (hL x hx)) (xi0 ix x hx)
 -- the invariant with one operation more that makes and writes nothing
 have quiet:∀(c':Ctx) (w':World) (u:Value),(∃rd,r.k=.quiet rd)→c.le c'→HSim c' (hX R X e0.h) w'→E.ok c' (hX R X e0.h) w'→(∀n,c.blk n=none→n<(hX R X e0.h).length→c'.blk n=none)→Rel c' r.res u →
   DInv E e0 R (fun j=>if j=i then true else X j) c' (a.put o.dst u) w':=by
  rintro c' w' u ⟨rd,hk⟩ ig jd qw sn hu;have hh:hX R (fun j=>if j=i then true else X j) e0.h=hX R X e0.h:=by
   unfold hX;have h1:=xc4 (X:=X) R 0 i r hr (fun xs=>by rw[hk];simp);have h2:=xlq (X:=X) (R:=R) (k:=0) (i:=i) (r:=r) hr (by simpa using wh) (.inl fun a b cs=>by rw[hk];simp);simp only[db]at h1 h2;rw[h1,h2];unfold vn;rw[hk]
  refine⟨qi4,qh7,fun t=>?_,by rw[hh];exact jd,by rw[hh];exact qw,fun j rj xs hj s9 hXj=>?_,fun rj hrj i' off cs s9=>?_⟩
  ·have h1:=xbo (X:=X) (t:=t) (k:=0) (x:=kj e0.t t) hr (fun j r' je hd hn=>by
    obtain⟨o',ky,ws,_⟩:=d.dst je;exact d.ok.uniq i o j o' hi ky (by rw[←wo];exact hn) (by rw[←wo,←ws,hd]))
   simp only[db]at h1;rw[h1];cases qq7:o.dst with
   |none =>
    rw[wo,qq7,if_neg ae];exact(inv.tmps t).mono ig
   |some dd =>
    have ib:dd<a.tmps.size:=qkv;rw[wo,qq7];by_cases hdt:dd=t
    ·subst hdt;rw[if_pos rfl];simpa[Act.put,ib]using hu
    ·rw[if_neg (by simpa using hdt)];have:=(inv.tmps t).mono ig;simpa[Act.put,ed,gt hdt]using this
  ·have mo:j≠i:=fun e=>by subst e;simp at hXj
   rw[if_neg mo]at hXj;refine sn _ (inv.nob j rj xs hj s9 hXj) ?_;rw[jdb];have h1:=qzf (X:=X) R 0 j rj xs hj s9;have:=(cq.1 h1).1;unfold qo0;omega
  ·obtain⟨j,h1,h2⟩:=qvq hrj;simp only[db]at h2;by_cases mo:j=i
   ·subst mo;rw[hr]at h1;cases h1;rw[hk]at s9;cases s9
   ·rw[if_neg mo]at h2;have qvu:rj∈td X 0 R:=xgd h1 ca;have ll:=xc4 (X:=X) R 0 i r hr (fun xs=>by rw[hk];simp);simp only[db]at ll;rw[ll];exact inv.fit rj qvu i' off cs s9
 -- how the step xnl on
 have hG:=quz;unfold uy at hG;split at hG
 ·exact hG.elim
 rename_i G hgB;obtain⟨_,hG⟩:=hG;have quc:Region.wanted o (yielded l.toArray a.tmps)=G:=jhm (l:=l) ae (i:=i) (fun j want hg=>d.ok.guard i o j want hi hg) (fun t ht=>hslot t (List.mem_append_right _ ht)) hgB;have qg:(l.toArray)[i]?=some o:=qf1;have jq:l.toArray.size=l.length:=ae;have xf7:∀n,c.blk n=none→n<(hX R X e0.h).length→c.blk n=none:=fun _ h _=>h
 -- an operation that yields a value and leaves the heap
 have still:∀(v:AV),r.res=q8 o.guard G v→(∃rd,r.k=.quiet rd)→(G=true→∃c' w' u,(execOp a.eval o).run P w=.ok (.value u) w'∧c.le c'∧HSim c' (hX R X e0.h) w'∧E.ok c' (hX R X e0.h) w'∧(∀n,c.blk n=none→n<(hX R X e0.h).length→c'.blk n=none)∧Rel c' v u) →
   wpOp P l.toArray Q i (fun a' w'=>∃c',DInv E e0 R (fun j=>if j=i then true else X j) c' a' w') a w:=by
  intro v hv hk jx;unfold wpOp;simp only[qg];cases hGv:G with
  |true =>
   rw[if_pos (by rw[quc,hGv])];obtain⟨c',w',u,h1,h2,h3,h4,h5,h6⟩:=jx hGv;refine .inl (wm h1 ⟨c',quiet c' w' u hk h2 h3 h4 h5 ?_⟩);rw[hv,hGv];unfold q8;split
   ·exact h6
   ·exact .opt _ _ _ (fun _=>h6) (fun h=>by cases h)
  |false =>
   rw[if_neg (by rw[quc,hGv];simp)];refine⟨c,quiet c w undef hk (.refl c) inv.hs inv.ok xf7 ?_⟩;rw[hv,hGv];unfold q8;split
   ·rename_i hg;rw[hg]at hgB;simp only[gB,d7]at hgB;rw[hGv]at hgB;cases hgB
   ·exact .opt _ _ _ (fun h=>by cases h) (fun _=>rfl)
 have hgt:o.guard=none→G=true:=fun hg=>by rw[hg]at hgB;simpa[gB]using hgB.symm
 -- stores carried out do not touch an object that this operation may still read or write
 have nostore:∀j,(∀(s:Nat) (r':DR) (off:Nat) (cs:List AV),R[s]?=some r'→r'.k=.store j off cs→sf (Region.before l.toArray) i s=true)→∀r',r'∈td X 0 R→∀off cs,r'.k≠.store j off cs:=by
  intro j hs r' je off cs hk;obtain⟨s,h1,h2⟩:=qvq je;rw[db]at h2;obtain⟨o',ky,_⟩:=d.dst h1;have:=qrc l9 s i o' ky (l9 s o' h2 ky) (hs s r' off cs h1 hk);rw[wh]at this;cases this
 -- an object to which a pointer is at hand has been made
 have made:∀(j off:Nat) (u:Value) (xs:List AV),Rel c (.ptr j off) u→(ja e0 (R.take i)).h[j]?=some (.cells xs)→(e0.h++m9 X 0 R)[j]?=some (.cells xs):=by
  intro j off u xs hp hj;rw[qxj]at hj;by_cases se:j<e0.h.length
  ·rw[cu se]at hj⊢;exact hj
  ·rw[cy aa]at hj;obtain⟨f,rf,ys,h1,h2,h3,h4⟩:=qdt _ _ _ _ hj;simp only[cond_true,AObj.cells.injEq]at h4;subst h4;have hfi:f<i:=by
    have:=(cq.1 h1).1;simp at this;omega
   rw[dx,if_pos hfi]at h1;rw[List.take_take,gj aa]at h3;have hXf:X f=true:=by
    cases hX:X f with
    |true=>rfl
    |false =>
     have h5:=inv.nob f rf xs h1 h2 hX;unfold qo0 at h5;rw[h3,show e0.h.length+(j - e0.h.length)=j from by omega]at h5;obtain⟨b,_,hb⟩:=qv8 hp;rw[h5]at hb;cases hb
   have h6:=qzf (X:=X) R 0 f rf xs h1 h2;rw[h3,db,hXf,cond_true]at h6;rw[cy aa];exact h6
 have qwq:qum (ja e0 (R.take i)).h (hX R X e0.h):=xvg
 -- an operation that makes an object
 have fresh:∀(xs:List AV) (vs:Array Value) (T:TypeId),r=⟨o.dst,.ptr (ja e0 (R.take i)).h.length 0,.fresh xs⟩→o.guard=none→qsa c xs vs→(execOp a.eval o).run P w=.ok (.value (.pointer (some ⟨w.heap.size,0,none⟩))) (w.alloc (.cells vs T)) →
   wpOp P l.toArray Q i (fun a' w'=>∃c',DInv E e0 R (fun j=>if j=i then true else X j) c' a' w') a w:=by
  intro xs vs T hrv hg hc jx;have hn:(ja e0 (R.take i)).h.length=e0.h.length+qo0 R i:=by rw[qxj];simp[qo0]
  have hk:r.k=.fresh xs:=by rw[hrv]
  have qx9:(e0.h++m9 X 0 R)[e0.h.length+qo0 R i]?=some .none:=by
   rw[cy aa,Nat.add_sub_cancel_left];have:=qzf (X:=X) R 0 i r xs hr hk
   rwa [db,wh]at this
  have qoe:(hX R X e0.h)[e0.h.length+qo0 R i]?=some .none:=(xfy _ _ _ .none ae).2 qx9;obtain⟨c',ig,s',k',hb,o9⟩:=ji2 inv.hs inv.ok qoe (inv.nob i r xs hr hk wh) aa T hc;have hnost:∀r',r'∈td X 0 R→∀off cs,r'.k≠.store (e0.h.length+qo0 R i) off cs:=fun r' je off cs kb=>by
   obtain⟨ys,h1,_⟩:=inv.fit r' je _ off cs kb;rw[qx9]at h1;cases h1
  have hF:=xog (X:=X) R 0 i r xs hr hk;rw[db]at hF;have hF':m9 (fun j=>if j=i then true else X j) 0 R=(m9 X 0 R).set (qo0 R i) (.cells xs):=hF;have happ:e0.h++(m9 X 0 R).set (qo0 R i) (.cells xs)=(e0.h++m9 X 0 R).set (e0.h.length+qo0 R i) (.cells xs):=by
   rw[fq _ _ aa,Nat.add_sub_cancel_left]
  have hh:hX R (fun j=>if j=i then true else X j) e0.h=(hX R X e0.h).set (e0.h.length+qo0 R i) (.cells xs):=by
   unfold hX;have h2:=xlq (X:=X) (R:=R) (k:=0) (i:=i) (r:=r) hr (by simpa using wh) (.inl fun a b cs=>by rw[hk];simp);rw[db]at h2;rw[hF',h2,happ,xze hnost];unfold vn;rw[hk]
  unfold wpOp;simp only[qg];rw[if_pos (by rw[quc,hgt hg])];refine .inl (wm jx ⟨c',⟨qi4,qh7,fun t=>?_,by rw[hh];exact s',by rw[hh];exact k',fun j rj ys hj s9 hXj=>?_,fun rj hrj i' off cs s9=>?_⟩⟩)
  ·have h1:=xbo (X:=X) (t:=t) (k:=0) (x:=kj e0.t t) hr (fun j r' je hd hn=>by
    obtain⟨o',ky,ws,_⟩:=d.dst je;exact d.ok.uniq i o j o' hi ky (by rw[←wo];exact hn) (by rw[←wo,←ws,hd]))
   simp only[db]at h1;rw[h1];cases qq7:o.dst with
   |none =>
    rw[wo,qq7,if_neg ae];exact(inv.tmps t).mono ig
   |some dd =>
    have ib:dd<a.tmps.size:=qkv;rw[wo,qq7];by_cases hdt:dd=t
    ·subst hdt;rw[if_pos rfl,hrv];simp only[Act.put,ed,Array.getElem?_setIfInBounds_self_of_lt ib,f9];rw[hn];exact .ptr _ _ _ hb
    ·rw[if_neg (by simpa using hdt)];have:=(inv.tmps t).mono ig;simpa[Act.put,ed,gt hdt]using this
  ·have mo:j≠i:=fun e=>by subst e;simp at hXj
   rw[if_neg mo]at hXj;rw[o9 _ fun e=>mo (jdi hj hr s9 hk aa)];exact inv.nob j rj ys hj s9 hXj
  ·obtain⟨j,h1,h2⟩:=qvq hrj;simp only[db]at h2;by_cases mo:j=i
   ·subst mo;rw[hr]at h1;cases h1;rw[hk]at s9;cases s9
   ·rw[if_neg mo]at h2;obtain⟨zs,h3,h4⟩:=inv.fit rj (xgd h1 ca) i' off cs s9;refine⟨zs,?_,h4⟩;rw[hF',happ,dm]
    ·exact h3
    ·intro e;rw[e]at qx9;rw[qx9]at h3;cases h3
 split at hG
 ·
  rename_i x y z jy;obtain⟨hp,je⟩:=hG;rw[hr]at je;cases je;refine still _ rfl ⟨_,rfl⟩ fun hGt=>?_;rw[hGt]at hp;have m:=te;rw[jy]at m;obtain⟨b,hb,jz⟩:=xq0 (m x bm) (m y bm) (m z bm) hp;exact⟨c,w,_,by simp only[execOp,jy,hb,asBool,dh,dy,dj],.refl c,inv.hs,inv.ok,xf7,jz⟩
 ·
  rename_i T x jy;obtain⟨hg,ix,jm,je⟩:=hG;rw[hr]at je;have jz:=qyz [x] qf4 ix x ae;exact fresh _ _ T qge hg (jz.cells jm) qhe
 ·
  rename_i T jy;obtain⟨hg,hk,je⟩:=hG;rw[hr]at je;obtain⟨iT,dT,z,h1,h2,h3,h4,h5,h6,h7,h8⟩:=lj (P:=P) (t:=T) rfl hk;rw[h6]at je;have hzv:(zeroValue T).run P w=.ok z w:=qh2;exact fresh _ _ T qge hg (xks c h8) qg9
 ·
  rename_i T ad x jy;obtain⟨hg,hdn,ix,oh,jm,u6,hG⟩:=hG;split at hG
  ·rename_i j off had;split at hG
   ·rename_i xs hj;obtain⟨hle',je⟩:=hG;rw[hr]at je;simp only[d7]at je;have hk:r.k=.store j off ((ja e0 (R.take i)).getS x).cells:=by rw[je]
    have x9:=qyz [ad,x] qf4 ix ad ae;have l8:=qyz [ad,x] qf4 ix x ae;rw[had]at x9;have qx9:=made j off _ xs x9 hj;obtain⟨ys,hy,hyl⟩:=jek (l:=td X 0 R) (fun r' je i' off' cs kb zs hz=>by
     obtain⟨us,g1,g2⟩:=inv.fit r' je i' off' cs kb;rw[hz]at g1;cases g1;exact g2) qx9
    obtain⟨w',jx,s',k'⟩:=xxp (E:=E) inv.hs inv.ok jy x9 l8 hy jm u6 oh aa;have hF:=xc4 (X:=X) R 0 i r hr (fun xs=>by rw[hk];simp);rw[db]at hF;have mj:qtm o.op=true:=by rw[jy];rfl
    have h2:=xlq (X:=X) (R:=R) (k:=0) (i:=i) (r:=r) hr (by simpa using wh) (.inr fun m r' hm zb hXm b1 b2 b3 hkm=>by
     rw[db]at hXm;obtain⟨o',ky,_,hst'⟩:=d.dst hm;have:=qrc l9 m i o' ky (l9 m o' hXm ky) (d.ok.stores i o m o' hi ky zb mj (hst' ⟨b1,b2,b3,hkm⟩));rw[wh]at this;cases this)
    rw[db]at h2;have hh:hX R (fun j=>if j=i then true else X j) e0.h=(hX R X e0.h).set j (.cells (qxh ys off ((ja e0 (R.take i)).getS x).cells)):=by
     have hy':(hX R X e0.h)[j]?=some (.cells ys):=hy;show rp _ _=_;rw[hF,h2];show vn r (hX R X e0.h)=_;unfold vn;rw[hk];simp only[hy']
    unfold wpOp;simp only[qg];rw[if_pos (by rw[quc,hgt hg])];refine .inl (xbb jx ⟨c,⟨by rw[hdn];exact inv.defers,by rw[hdn];exact inv.size,fun t=>?_,by rw[hh];exact s',by rw[hh];exact k',fun m rm zs hm hmk hXm=>?_,fun rm hrm i' off' cs hmk=>?_⟩⟩)
    ·have h1:=xbo (X:=X) (t:=t) (k:=0) (x:=kj e0.t t) hr (fun m r' je hd hn=>by
      rw[wo,hdn]at hn;exact(hn rfl).elim)
     simp only[db]at h1;rw[h1,wo,hdn,if_neg ae];exact inv.tmps t
    ·have hmi:m≠i:=fun e=>by subst e;simp at hXm
     rw[if_neg hmi]at hXm;exact inv.nob m rm zs hm hmk hXm
    ·obtain⟨m,h3,h4⟩:=qvq hrm;simp only[db]at h4;rw[hF];by_cases hmi:m=i
     ·subst hmi;rw[hr]at h3;cases h3;rw[hk]at hmk;cases hmk;exact⟨xs,qx9,hle'⟩
     ·rw[if_neg hmi]at h4;exact inv.fit rm (xgd h3 qiw) i' off' cs hmk
   ·exact hG.elim
  ·exact hG.elim
 ·
  rename_i T n parts jy;split at hG
  ·rename_i el sz hk;split at hG
   ·rename_i rows qwh;obtain⟨hg,ix,hn,kq,yx,oh,u6,je⟩:=hG;rw[hr]at je;cases je;refine still (.slice rows) rfl ⟨_,rfl⟩ fun hGt=>?_;have jz:=qyz (parts.toList.map (·.2)) qf4 ix
    rw[xt4 qwq]at qwh;obtain⟨v,w',c',jx,ig,s',k',je⟩:=xoe (P:=P) (E:=⟨E.N,c,hX R X e0.h,w⟩) inv.hs (Ent.ok.refl _ inv.hs) hk (parts:=parts.toList.map fun p=>(p.1,(ja e0 (R.take i)).getS p.2)) (qs:=parts.map fun p=>(p.1,a.eval p.2)) ae (fun j p q hp hq=>by
     simp only[dq,dn]at hp;obtain⟨x,hx,rfl⟩:=hp;simp only[gv,dn]at hq;obtain⟨y,hy,rfl⟩:=hq;have:x=y:=qh0;subst this;exact⟨rfl,jz x.2 (dk.2 ⟨x,c7 hx,rfl⟩)⟩) qwh hn kq yx oh u6
    exact⟨c',w',v,qfi,ig,s',inv.ok.trans k',fun n h1 h2=>by rw[k'.blk0 n h2];exact h1,je⟩
   ·split at hG
    ·rename_i cs ma;obtain⟨hg,ix,kq,yx,oh,u6,je⟩:=hG;rw[hr]at je;cases je;refine still (.lit cs) rfl ⟨_,rfl⟩ fun hGt=>?_;have jz:=qyz (parts.toList.map (·.2)) qf4 ix
     obtain⟨v,w',c',jx,ig,s',k',je⟩:=xqc (P:=P) (E:=⟨E.N,c,hX R X e0.h,w⟩) inv.hs (Ent.ok.refl _ inv.hs) hk (parts:=parts.toList.map fun p=>(p.1,(ja e0 (R.take i)).getS p.2)) (qs:=parts.map fun p=>(p.1,a.eval p.2)) ae (fun j p q hp hq=>by
      simp only[dq,dn]at hp;obtain⟨x,hx,rfl⟩:=hp;simp only[gv,dn]at hq;obtain⟨y,hy,rfl⟩:=hq;have:x=y:=qh0;subst this;exact⟨rfl,jz x.2 (dk.2 ⟨x,c7 hx,rfl⟩)⟩) ma kq yx oh u6
     exact⟨c',w',v,qfi,ig,s',inv.ok.trans k',fun n h1 h2=>by rw[k'.blk0 n h2];exact h1,je⟩
    ·exact hG.elim
  ·exact hG.elim
 ·
  rename_i f args ts jy;split at hG
  ·rename_i fid first caps hf
   obtain⟨rv,hp,je⟩:=hG;rw[hr]at je;cases je;unfold wpOp;simp only[qg];cases hGv:G with
   |true =>
    rw[if_pos (by rw[quc,hGv])];obtain⟨ix,hp⟩:=hp hGv;have jz:=qyz (f::args.toList) (by rw[jy];simp[Op.operands,Call.operands]) ix;rw[xfo qwq]at hp;refine .inl (jdg (E:=⟨E.N,c,hX R X e0.h,w⟩) inv.hs (Ent.ok.refl _ inv.hs) jy jz hf (hp _ jfw) (fun v h' c' w' u hR ig jd kb hru=>?_) (fun v h' hR=>by cases hR.1));obtain⟨h1,rfl⟩:=hR;cases h1;refine⟨c',quiet c' w' u ⟨_,rfl⟩ ig jd (inv.ok.trans kb) (fun n h1 h2=>by rw[kb.blk0 n h2];exact h1) ?_⟩;show Rel c' (q8 o.guard G rv) u;rw[hGv];unfold q8;split
    ·exact hru
    ·exact .opt _ _ _ (fun _=>hru) (fun h=>by cases h)
   |false =>
    rw[if_neg (by rw[quc,hGv];simp)];refine⟨c,quiet c w undef ⟨_,rfl⟩ (.refl c) inv.hs inv.ok xf7 ?_⟩;show Rel c (q8 o.guard G rv) undef;rw[hGv];unfold q8;split
    ·rename_i hg;rw[hgt hg]at hGv;cases hGv
    ·exact .opt _ _ _ (fun h=>by cases h) (fun _=>rfl)
  ·exact hG.elim
 ·
  rename_i op jw li hb3 hb4 hb5 hb6;obtain⟨iq,je⟩:=hG;rw[hr]at je;cases je;refine still _ rfl ⟨_,rfl⟩ fun hGt=>?_;obtain⟨ix,hs⟩:=iq hGt;have jz:=qyz _ (fun x hx=>hx) ix;have hheap:qb P (ja e0 (R.take i)).getS (ja e0 (R.take i)).h o.op=qb P (ja e0 (R.take i)).getS (hX R X e0.h) o.op:=jed xvg (fun j hj=>by
   obtain⟨t,ad,off,jy,had⟩:∃t ad off,o.op=.load t ad∧(ja e0 (R.take i)).getS ad=.ptr j off:=by
    revert hj
    unfold qyn;split
    ·rename_i t ad hop';intro hj;split at hj
     ·rename_i i' off ha;simp only[d7]at hj;subst hj;exact⟨t,ad,off,hop',ha⟩
     ·cases hj
    ·intro hj;cases hj
   have wy:=hs;rw[jy]at wy;simp only[qb,qvy,had]at wy;split at wy
   ·rename_i xs hxs;have hp:=jz ad qf4;rw[had]at hp;have h1:=made j off _ xs hp hxs;have iz:=nostore j fun s r' off cs hs hk=>(d.sep i s _ r' j off cs hr (by simp only[hj]) hs hk).2;rw[hxs];unfold hX;rw[jnm iz,h1]
   ·exact wy.elim) jca
  rw[hheap]at hs⊢;obtain⟨v,h1,h2⟩:=xrl inv.hs jz hs;exact⟨c,w,v,h1,.refl c,inv.hs,inv.ok,xf7,h2⟩
end
end Go.Abs
