/- Part 5 of a proof. -/
import Derived.Test.YtbimdamecieomaaGreatDoorR04
set_option linter.all false

namespace Go.Abs
theorem Rel.one{c:Ctx}{x:AV}{v:Value}(h:Rel c x v)(h1:x.one=true):v.oneCell'=true:=by
 cases h with
 |data h=>exact h.one
 |top v=>simp[AV.one]at h1
 |val v=>exact h1
 |nils=>rfl
 |agg=>simp[AV.one]at h1
 |tuple=>simp[AV.one]at h1
 |ptr=>rfl
 |eptr=>rfl
 |lit=>rfl
 |optr=>rfl
 |mapr=>rfl
 |fn=>rfl
 |iface=>rfl
 |own i n v h ho=>exact ho
 |opt=>simp[AV.one]at h1
theorem xs5{v:Value}(h:v.oneCell'=true):v.cells = #[v]:=by
 cases v<;>first|rfl|simp[Value.oneCell']at h
theorem Rel.cells{c:Ctx}{x:AV}{v:Value}(h:Rel c x v)(h1:x.cellsOk=true) :
  v.cells.size=x.cells.length∧∀(j:Nat) (y:AV) (u:Value),x.cells[j]?=some y→v.cells[j]?=some u→Rel c y u∧u.oneCell'=true:=by
 have single:∀(x:AV) (v:Value),Rel c x v→x.one=true→x.cells=[x]→v.cells.size=x.cells.length∧∀(j:Nat) (y:AV) (u:Value),x.cells[j]?=some y→v.cells[j]?=some u→Rel c y u∧u.oneCell'=true:=by
  intro x v hr ho hx;have hv:=hr.one ho;rw[hx,xs5 hv];refine⟨rfl,fun j y u hy hu=>?_⟩;cases j with
  |zero=>simp at hy hu;subst hy;subst hu;exact⟨hr,hv⟩
  |succ j=>simp at hy
 cases x with
 |agg xs =>
  cases h with
  |data h=>cases h
  |agg xs vs hl ho hr=>exact⟨hl,fun j y u hy hu=>⟨hr j y u hy hu,ho j u hu⟩⟩
 |top=>simp[AV.cellsOk,AV.one]at h1
 |tuple=>simp[AV.cellsOk,AV.one]at h1
 |opt=>simp[AV.cellsOk,AV.one]at h1
 |_=>exact single _ _ h h1 rfl
section
variable {P:Program} {c:Ctx} {h:gz} {w:World}
theorem xd1{d:Int}{x:Option AV}{u:Option Value}{n:Int}(hb:qxa d x=some n)(hx:∀a,x=some a→∃v,u=some v∧Rel c a v)(hn:x=none→u=none) :
  (u=none∧n=d)∨(∃k,u=some (.int k n)):=by
 unfold qxa at hb;split at hb
 ·rename_i h0;exact .inl ⟨hn rfl,by simpa using hb.symm⟩
 ·rename_i k m;obtain⟨v,hv,hr⟩:=hx _ rfl;obtain rfl:=hr.val_inv;simp at hb;subst hb;exact .inr ⟨k,hv⟩
 ·cases hb
theorem run_sliceBound{k:IntKind}{n:Int}{y:Nat}{code:BoundsCode}(h0:0≤n)(h1:n≤y):(Instr.sliceBound (.int k n) y code).run P w=.ok n.toNat w:=by
 simp[Instr.sliceBound,asIntOf,h0,h1]
theorem qe9{isS:Bool}{len cap:Nat}{lo hi:Option Value}{l h':Int}(hl:(lo=none∧l=0)∨∃k,lo=some (.int k l))(hh:(hi=none∧h'=len)∨∃k,hi=some (.int k h'))
  (h0:0≤l) (h1:l≤h') (h2:h'≤len) (h3:len≤cap):(Instr.sliceBounds isS len cap lo hi none).run P w=.ok (l.toNat,h'.toNat,cap) w:=by
 have hc:h'≤cap:=aa;have hn:l≤(h'.toNat:Int):=aa;have qc:0≤h':=aa;rcases hl with⟨rfl,rfl⟩|⟨k,rfl⟩<;>rcases hh with⟨rfl,rfl⟩|⟨k',rfl⟩
 ·simp[Instr.sliceBounds]
 ·simp[Instr.sliceBounds,run_sliceBound qc hc]
 ·simp[Instr.sliceBounds,run_sliceBound h0 h1]
 ·simp[Instr.sliceBounds,run_sliceBound qc hc,run_sliceBound h0 hn]
theorem xy5{T:TypeId}{x:AV}{lo hi mx:Option AV}{u:Value}{lo' ke mx':Option Value}(hx:Rel c x u)
  (hlo:∀a,lo=some a→∃v,lo'=some v∧Rel c a v) (hlo0:lo=none→lo'=none) (hhi:∀a,hi=some a→∃v,ke=some v∧Rel c a v) (hhi0:hi=none→ke=none) (hmx:mx=none→mx'=none)
  (iq:(xbx P T x lo hi mx).side):∃r,(Instr.sliceAt T u lo' ke mx').run P w=.ok r w∧Rel c (xbx P T x lo hi mx).val r:=by
 unfold xbx at iq⊢;split at iq
 ·exact iq.elim
 ·obtain rfl:=hmx rfl;split at iq
  ·rename_i e sz rows hk;obtain⟨i',d,z,h1,h2,h3,h4,h5,_⟩:=lj hk ae;obtain⟨rfl,ie,lx,rfl⟩:=xx h4;split at iq
   ·rename_i l hh hl hh';obtain⟨ha,hb,hc,ix⟩:=iq;have e1:=xd1 hl hlo hlo0;have e2:=xd1 hh' hhi hhi0;have hd:=hx.slice_inv;cases hd with
    |nil =>
     have hl0:l=0:=qjk;have hh0:hh=0:=qjk;subst hl0;subst hh0;refine⟨.slice none 0 0,?_,by simpa using .data .nil⟩;have:=qe9 (P:=P) (w:=w) (isS:=true) (len:=0) (cap:=0) e1 e2 aa aa aa (ct _);simp[Instr.sliceAt,Instr.slice,po h2,this,z8 lx]
    |empty a =>
     have hl0:l=0:=qjk;have hh0:hh=0:=qjk;subst hl0;subst hh0;refine⟨.slice (some a) 0 0,?_,by simpa using .data (.empty a)⟩;have:=qe9 (P:=P) (w:=w) (isS:=true) (len:=0) (cap:=0) e1 e2 aa aa aa (ct _);simp[Instr.sliceAt,Instr.slice,po h2,this,z8 lx]
    |slice rows b off cap sz g u6 hB qh hD hr =>
     have jx:=qe9 (P:=P) (w:=w) (isS:=true) (len:=rows.length) (cap:=cap) e1 e2 ha hb hc qh;have jr:((rows.take hh.toNat).drop l.toNat).length=hh.toNat - l.toNat:=am;have qg:∀(i:Nat) (r:List AV),((rows.take hh.toNat).drop l.toNat)[i]?=some r→rows[l.toNat+i]?=some r:=fun i r hi=>by
      rw[ez,dx]at hi;split at hi
      ·exact hi
      ·cases hi
     have hres:∀ad:Option Addr,(ad=some ⟨b,off,none⟩∧cap=l.toNat)∨ad=some ⟨b,off+l.toNat * ie.size,none⟩→(0<((rows.take hh.toNat).drop l.toNat).length→sz=ie.size) →
       Rel c (.slice ((rows.take hh.toNat).drop l.toNat)) (.slice ad (hh.toNat - l.toNat) (cap - l.toNat)):=by
      intro ad had hsz0;rw[←jr];have base:∀o,(0<((rows.take hh.toNat).drop l.toNat).length→o=off+l.toNat * sz)→Rel c (.slice ((rows.take hh.toNat).drop l.toNat)) (.slice (some ⟨b,o,none⟩) ((rows.take hh.toNat).drop l.toNat).length (cap - l.toNat)):=by
       intro o ho;refine .data (.slice _ b o _ sz (fun i j=>g (l.toNat+i) j) (fun r je=>u6 r (gc (qla je))) (by rw[jr];omega) (by rw[jr];omega) (fun i j r x je mc=>?_) fun i j r x je mc=>hr _ j r x (qg i r je) mc);have kq:0<((rows.take hh.toNat).drop l.toNat).length:=Nat.lt_of_le_of_lt (di _) (cq.1 je).1;have:=hD _ j r x (qg i r je) mc;rw[ho kq];rw[fi]at this;rw[show off+l.toNat * sz+i * sz+j=off+(l.toNat * sz+i * sz)+j from by omega];exact this
      rcases had with⟨rfl,qv0⟩|rfl
      ·exact base off fun kq=>by rw[jr]at kq;omega
      ·exact base _ fun kq=>by rw[hsz0 kq]
     have hszr:0<((rows.take hh.toNat).drop l.toNat).length→sz=ie.size:=fun kq=>by
      rw[jr]at kq;have ib:l.toNat<rows.length:=aa;rw[←u6 rows[l.toNat] ae,ix rows[l.toNat] ae]
     refine⟨.slice (if cap=l.toNat then some ⟨b,off,none⟩else some ⟨b,off+l.toNat * ie.size,none⟩) (hh.toNat - l.toNat) (cap - l.toNat),?_,?_⟩
     ·simp[Instr.sliceAt,Instr.slice,po h2,jx,z8 lx,xk]
     ·split
      ·rename_i l9;exact hres _ (.inl ⟨rfl,l9⟩) hszr
      ·exact hres _ (.inr rfl) hszr
   ·exact iq.elim
  ·rename_i s hk;obtain⟨i',d,z,h1,h2,h3,h4,h5,_⟩:=lj hk ae;obtain rfl:=xcv h4;obtain rfl:=hx.val_inv;split at iq
   ·rename_i l hh hl hh';obtain⟨ha,hb,hc⟩:=iq;have jx:=qe9 (P:=P) (w:=w) (isS:=false) (len:=s.size) (cap:=s.size) (xd1 hl hlo hlo0) (xd1 hh' hhi hhi0) ha hb hc (ct _);exact⟨_,by simp[Instr.sliceAt,Instr.slice,po h2,jx],.val _ (by
     have hso:=qsm hx;simp only[zz,decide_eq_true_eq]at hso⊢;rw[ByteArray.size_extract];omega)⟩
   ·exact iq.elim
  ·exact iq.elim
theorem jk9{x y:AV}{u v:Value}(hx:Rel c x u)(hy:Rel c y v)(iq:(xb9 x y).side)(ts:Array TypeId)(ty:TypeId):∃r,(Builtin.min_ ts ty #[u,v]).run P w=.ok r w∧Rel c (xb9 x y).val r:=by
 unfold xb9 at iq⊢;split at iq
 ·rename_i k a k' b;simp only at iq;subst iq;obtain rfl:=hx.val_inv;obtain rfl:=hy.val_inv;exact⟨_,by simp[Builtin.min_,Builtin.min2],.val _⟩
 ·exact iq.elim
theorem jns{x y z:AV}{u v t:Value}(hx:Rel c x u)(hy:Rel c y v)(hz:Rel c z t)(iq:(xbu x y z).side)(ts:Array TypeId)(ty:TypeId):∃r,(Builtin.min_ ts ty #[u,v,t]).run P w=.ok r w∧Rel c (xbu x y z).val r:=by
 unfold xbu at iq⊢;split at iq
 ·rename_i k a k' b k2 d;simp only at iq;obtain⟨rfl,rfl⟩:=iq;obtain rfl:=hx.val_inv;obtain rfl:=hy.val_inv;obtain rfl:=hz.val_inv;exact⟨_,by simp[Builtin.min_,Builtin.min2],.val _⟩
 ·exact iq.elim
theorem jap{x y:AV}{u v:Value}(hx:Rel c x u)(hy:Rel c y v)(iq:(xaz x y).side)(ts:Array TypeId)(ty:TypeId):∃r,(Builtin.max_ ts ty #[u,v]).run P w=.ok r w∧Rel c (xaz x y).val r:=by
 unfold xaz at iq⊢;split at iq
 ·rename_i k a k' b;simp only at iq;subst iq;obtain rfl:=hx.val_inv;obtain rfl:=hy.val_inv;exact⟨_,by simp[Builtin.max_,Builtin.max2],.val _⟩
 ·exact iq.elim
theorem jew{h:gz}(hs:HSim c h w){src dst:TypeId}{x:AV}{u:Value}(hx:Rel c x u)(iq:(xax P src dst x).side):∃r,(convert src dst u).run P w=.ok r w∧Rel c (xax P src dst x).val r:=by
 unfold xax at iq⊢;split at iq
 ·rename_i k k' n hk;obtain⟨i',d,z,h1,h2,h3,h4,h5,_⟩:=lj hk ae;obtain rfl:=xpd h4;obtain⟨i'',d',z',g1,g2,_⟩:=lj (P:=P) (t:=src) rfl iq;obtain rfl:=hx.val_inv;refine⟨.int k (k.wrap n),?_,.val _⟩;simp only[convert,dh,po h2,po g2,dj];cases d'<;>simp[Conv.intToInt]
 ·rename_i s hk;obtain⟨i',d,z,h1,h2,h3,h4,h5,_⟩:=lj hk ae;obtain rfl:=xcv h4;obtain⟨i'',d',z',g1,g2,_⟩:=lj (P:=P) (t:=src) rfl iq;obtain rfl:=hx.val_inv;refine⟨.string s,?_,.val _ (qsm hx)⟩;simp only[convert,dh,po h2,po g2,dj];cases d'<;>simp
 ·rename_i n hk;obtain⟨i',d,z,h1,h2,h3,h4,h5,_⟩:=lj hk ae;obtain rfl:=xcv h4;simp only[xl3]at iq;split at iq
  ·rename_i e sz hks;obtain⟨rfl,oh⟩:=iq;obtain⟨_,ds,_,_,g2,_,g4,_⟩:=lj hks ae;obtain⟨rfl,_⟩:=xx g4;obtain⟨_,de,_,_,f2,_,f4,_⟩:=lj oh ae;obtain rfl:=xpd f4;have hd:=hx.slice_inv;cases hd with
   |slice _ b off cap sz g jq hB hc hD hr =>
    have hc0:w.cell? ⟨b,off,none⟩=some (g 0 0):=hs.data _ _ _ (by simpa using hD 0 0 _ _ rfl rfl);have hv:g 0 0=.int .u8 n:=by
     have h0:DRel c.D (.val (.int .u8 n)) (g 0 0):=hr 0 0 _ _ rfl rfl;generalize g 0 0=y at h0;cases h0;rfl
    rw[hv]at hc0;have jx:=run_loadCells_list (P:=P) w ⟨b,off,none⟩ [.int .u8 n] (fun j v hj=>by
     cases j with
     |zero=>simp at hj;subst hj;simpa[xk]using hc0
     |succ j=>simp at hj)
    refine⟨.string ⟨#[UInt8.ofNat n.toNat]⟩,?_,.val _ (by simp[zz,ByteArray.size])⟩;simp only[f8]at jx;simp only[convert,dh,po h2,po g2,po f2,dj,Conv.bytesToString,f8,jx];simp[ByteArray.push,ByteArray.empty,ByteArray.emptyWithCapacity];rfl
  ·exact iq.elim
 ·exact iq.elim
theorem xgq{d:TypeDesc}(h1:nj P d≠.iface):∀ms,d≠.interface ms:=fun ms h=>h1 (by rw[h];rfl)
theorem jh8{src dst:TypeId}{ok:Bool}{x:AV}{u:Value}(hx:Rel c x u)(iq:(xbz P dst ok x).side):∃r,(Instr.typeAssert u src dst ok).run P w=.ok r w∧Rel c (xbz P dst ok x).val r:=by
 have tup:∀(y:AV) (v:Value) (b:Bool),Rel c y v→Rel c (.tuple [y,.val (.bool b)]) (.tuple #[v,.bool b]):=fun y v b hy=>by
  refine .tuple _ _ rfl fun j z z' h1 h2=>?_
  match j with
  | 0=>simp at h1 h2;subst h1;subst h2;exact hy
  | 1=>simp at h1 h2;subst h1;subst h2;exact .val _
  |j+2=>simp at h1
 unfold xbz at iq⊢;split at iq
 ·rename_i t v;obtain⟨v',rfl,hv⟩:∃v',u=.iface t v'∧Rel c v v':=by
   cases hx with
   |data h=>cases h
   |iface _ _ v' h=>exact⟨v',rfl,h⟩
  cases ht:t == dst with
  |true =>
   simp only[ht]at iq⊢;obtain⟨i,d,z,h1,h2,h3,h4,_⟩:=lj (P:=P) (t:=dst) rfl iq.2;have hd:=xgq (P:=P) (d:=d) qko;have he:t=dst:=by simpa using ht
   refine⟨.tuple #[v',.bool true],?_,tup _ _ _ hv⟩;cases d<;>first|(exact(hd _ rfl).elim)|simp[Instr.typeAssert,po h2,he]
  |false =>
   simp only[ht]at iq⊢;split at iq
   ·rename_i z hz;simp only[hz];obtain⟨i,d,z',h1,h2,h3,h4,_⟩:=lj (P:=P) (t:=dst) rfl iq.2;have hd:=xgq (P:=P) (d:=d) qko;have he:¬t=dst:=by simpa using ht
    obtain⟨zv,hzv,hzr⟩:=xkg (P:=P) (w:=w) (c:=c) hz;refine⟨.tuple #[zv,.bool false],?_,tup _ _ _ hzr⟩;cases d<;>first|(exact(hd _ rfl).elim)|simp[Instr.typeAssert,po h2,he,hzv]
   ·exact iq.elim
 ·rename_i t v;obtain⟨v',rfl,hv⟩:∃v',u=.iface t v'∧Rel c v v':=by
   cases hx with
   |data h=>cases h
   |iface _ _ v' h=>exact⟨v',rfl,h⟩
  obtain⟨he,hk1,q9⟩:=iq;obtain⟨i,d,z',h1,h2,h3,h4,_⟩:=lj (P:=P) (t:=dst) rfl q9;have hd:=xgq (P:=P) (d:=d) (by rw[h4];exact hk1);refine⟨v',?_,hv⟩;cases d<;>first|(exact(hd _ rfl).elim)|simp[Instr.typeAssert,po h2,he]
 ·obtain rfl:=hx.val_inv;split at iq
  ·rename_i z hz;simp only[hz];obtain⟨i,d,z',h1,h2,h3,h4,_⟩:=lj (P:=P) (t:=dst) rfl iq.2;have hd:=xgq (P:=P) (d:=d) qko;obtain⟨zv,hzv,hzr⟩:=xkg (P:=P) (w:=w) (c:=c) hz;refine⟨.tuple #[zv,.bool false],?_,tup _ _ _ hzr⟩;cases d<;>first|(exact(hd _ rfl).elim)|simp[Instr.typeAssert,po h2,hzv]
  ·exact iq.elim
 ·exact iq.elim
theorem xxi{vs:List AV}{n:Nat}{u:Value}(hx:Rel c (.tuple vs) u)(iq:n<vs.length):∃r,(Instr.extract u n).run P w=.ok r w∧Rel c (vs.getD n .top) r:=by
 cases hx with
 |data h=>cases h
 |tuple xs us hl hr =>
  have ib:n<us.size:=aa;refine⟨us[n],by simp[Instr.extract,ib],hr n _ _ (by simp[List.getD,iq]) bp⟩
end
end Go.Abs

namespace Go.Abs
def qsa(c:Ctx)(xs:List AV)(vs:Array Value):Prop :=
 vs.size=xs.length∧∀(j:Nat) (x:AV) (v:Value),xs[j]?=some x→vs[j]?=some v→Rel c x v∧v.oneCell'=true
theorem xdn(off:Nat):∀(l:List Value) (s:Nat) (cs:Array Value),((l.zipIdx s).foldl (fun (cs:Array Value) (p:Value×Nat)=>cs.setIfInBounds (off+p.2) p.1) cs).size=cs.size ∧
  (off+s+l.length≤cs.size→∀k,((l.zipIdx s).foldl (fun (cs:Array Value) (p:Value×Nat)=>cs.setIfInBounds (off+p.2) p.1) cs)[k]?=if off+s≤k∧k<off+s+l.length then l[k - (off+s)]? else cs[k]?)
 | [],s,cs=>⟨rfl,fun _ k=>by simp;intro h1 h2;omega⟩
 |v::l,s,cs=>by
  obtain⟨h1,h2⟩:=xdn off l (s+1) (cs.setIfInBounds (off+s) v);refine⟨av,fun ig k=>?_⟩;simp only[d5]at ig;have:=h2 am k;simp only[List.zipIdx_cons,fu];rw[this];by_cases hk:k=off+s
  ·subst hk;rw[if_neg aa,if_pos ae];have ib:off+s<cs.size:=aa;simp[Array.getElem?_setIfInBounds,ib]
  ·by_cases q9:off+(s+1)≤k∧k<off+(s+1)+l.length
   ·rw[if_pos q9,if_pos (by simp only[d5];omega),show k - (off+s)=(k - (off+(s+1)))+1 from by omega];simp
   ·rw[if_neg q9,if_neg (by simp only[d5];omega),gt (fun e=>hk e.symm)]
theorem jny{c:Ctx}{xs:List AV}{cs:Array Value}(hc:qsa c xs cs){x:AV}{v:Value}(hr:Rel c x v)(ho:x.cellsOk=true){off:Nat}(ig:off+x.cells.length≤xs.length) :
  qsa c (xs.take off++x.cells++xs.drop (off+x.cells.length)) (v.cells.zipIdx.foldl (fun (cs:Array Value) (p:Value×Nat)=>cs.setIfInBounds (off+p.2) p.1) cs):=by
 obtain⟨jq,mw⟩:=hr.cells ho;rw[←ql9,Array.toList_zipIdx];obtain⟨h1,h2⟩:=xdn off v.cells.toList 0 cs;have h2:=h2 (by simp;rw[jq,hc.1];exact ig);refine⟨by rw[h1,hc.1];simp;omega,fun j y u hy hu=>?_⟩;rw[h2 j]at hu;simp only[d6,qlq,jq]at hu;split at hu
 ·rename_i hj;rw[dr,cy am,cu am]at hy;have hmin:min off xs.length=off:=aa;simp only[du,hmin]at hy;exact mw _ y u hy qj5
 ·rename_i hj;by_cases ib:j<off
  ·rw[dr,cu am,dx,if_pos ib]at hy;exact hc.2 j y u hy hu
  ·rw[cy am,ez]at hy;simp only[cz,du]at hy;rw[show off+x.cells.length+(j - (min off xs.length+x.cells.length))=j from by omega]at hy;exact hc.2 j y u hy hu
theorem xua{c:Ctx}{fs:List (Nat×Nat)}{place:Nat→Option (Nat×Nat)}(hp:∀i,i<fs.length→place i=fs[i]?):∀(ps:List (Nat×AV)) (qs:List (Nat×Value)) (xs ys:List AV) (cs:Array Value),
  ps.length=qs.length→(∀(k:Nat) (p:Nat×AV) (q:Nat×Value),ps[k]?=some p→qs[k]?=some q→p.1=q.1∧Rel c p.2 q.2)→qsa c xs cs→qyr fs ps xs=some ys →
  ∃tw,Instr.fill place cs qs=some tw∧qsa c ys tw
 | [],[],xs,ys,cs,_,_,hc,h=>by simp only[qyr,d7]at h;subst h;exact⟨cs,rfl,hc⟩
 | [],_::_,_,_,_,hl,_,_,_=>by simp at hl
 |_::_,[],_,_,_,hl,_,_,_=>by simp at hl
 |(i,x)::ps,(i',v)::qs,xs,ys,cs,hl,hpq,hc,h=>by
  obtain⟨he,hr⟩:=hpq 0 (i,x) (i',v) rfl rfl;simp only at he hr;subst he;simp only[qyr]at h;split at h
  ·rename_i o n hf;split at h
   ·rename_i qqt;obtain⟨ho,rfl,ig⟩:=qqt;have jq:=(hr.cells ho).1;obtain⟨tw,h1,h2⟩:=xua hp ps qs _ ys _ cj (fun k p q hp hq=>hpq (k+1) p q qha qj6) (jny hc hr ho ig) h;refine⟨tw,?_,h2⟩;simp only[Instr.fill,hp i (cq.1 hf).1,hf];have iz:(decide (v.cells.size≠x.cells.length)||decide (o+v.cells.size > cs.size))=false:=by
     rw[jq,hc.1];simp;omega
    rw[if_neg (by rw[jq,hc.1];simp;omega)];exact h1
   ·cases h
  ·cases h
theorem jey(c:Ctx)(v:Value):Rel c (tr v) v:=by
 exact xba c v
theorem xks(c:Ctx){z:Value}(h:∀v,v∈z.cells.toList→v.oneCell'=true):qsa c (z.cells.toList.map tr) z.cells :=
 ⟨ae,fun j x v hx hv=>by
  simp only[dq,dn]at hx;obtain⟨u,hu,rfl⟩:=hx;have:u=v:=by simpa[hv]using hu.symm
  subst this;exact⟨jey c u,h u (c7 hu)⟩⟩
theorem xru{P:Program}{α β:Type}{f:α→Sem β}{g:α→β}{w:World}:∀(l:List α),(∀x,x∈l→(f x).run P w=.ok (g x) w)→(l.mapM f).run P w=.ok (l.map g) w
 | [],_=>by simp
 |x::l,h=>by
  simp only[List.mapM_cons,dh,h x ae,dj,xru l (fun y hy=>h y cm),dy,c8]
theorem xs7{P:Program}{α β:Type}{f:α→Sem β}{g:α→β}{w:World}(l:Array α)(h:∀x,x∈l.toList→(f x).run P w=.ok (g x) w):(l.mapM f).run P w=.ok (l.map g) w:=by
 rw[Array.mapM_eq_mapM_toList];simp only[Sem.run_map,xru l.toList h,dj];congr 1;apply gu;simp
section
variable {P:Program} {c:Ctx} {h:gz} {w:World}
theorem jeq{t:TypeId}{ps:List (Nat×AV)}{qs:Array (Nat×Value)}{ys:List AV}(hl:ps.length=qs.size)
  (hpq:∀(k:Nat) (p:Nat×AV) (q:Nat×Value),ps[k]?=some p→qs[k]?=some q→p.1=q.1∧Rel c p.2 q.2) (hag:(ij P t).agg=true) (hf:qyr (qrf P t) ps (jo P t)=some ys) :
  ∃r,(Instr.build t qs).run P w=.ok r w∧Rel c (.agg ys) r:=by
 have ii:ij P t≠.other:=fun e=>by simp[e,TK.agg]at hag
 obtain⟨i,d,z,h1,h2,h3,h4,h5,h6,h7,h8⟩:=lj (P:=P) (t:=t) rfl ii;rw[h6]at hf;have hz:=xks c h8;have hzv:(zeroValue t).run P w=.ok z w:=qh2;have fin:∀(place:Nat→Option (Nat×Nat)),(∀i,i<(qrf P t).length→place i=(qrf P t)[i]?)→∃tw,Instr.fill place z.cells qs.toList=some tw∧qsa c ys tw:=fun place hp =>
  xua hp ps qs.toList _ ys z.cells cj (fun k p q hp hq=>hpq k p q hp qj6) hz hf
 have done:∀tw,qsa c ys tw→Rel c (.agg ys) (.agg tw):=fun tw ma=>.agg ys tw ma.1 (fun j v hv=>by
   have ib:j<ys.length:=by rw[←ma.1];exact(f0.1 hv).1
   exact(ma.2 j ys[j] v bp hv).2) fun j x v hx hv=>(ma.2 j x v hx hv).1
 cases hk:ij P t with
 |struct fs =>
  rw[hk]at h4;obtain⟨l,rfl,ix,rfl⟩:=xvj h4;have ve:qrf P t=l.toList.map fun f=>(f.offset,P.cellsOf f.type):=by simp[qrf,hk]
  obtain⟨tw,qxw,ma⟩:=fin (fun i=>(l.map fun f=>(f.offset,P.cellsOf f.type))[i]?) (fun i _=>by rw[ve];simp);refine⟨.agg tw,?_,done tw ma⟩;have hm:(l.mapM fun f=>(do pure (f.offset,←sizeOf f.type):Sem (Nat×Nat))).run P w=.ok (l.map fun f=>(f.offset,P.cellsOf f.type)) w:=xs7 l fun f hf'=>by
   obtain⟨i',ke⟩:=ix f hf';simp[z8 ke,Program.cellsOf,ke]
  simp only[Instr.build,dh,hzv,po h2,dj,hm,qxw,dy]
 |array n e sz =>
  rw[hk]at h4;obtain⟨rfl,ie,lx,rfl⟩:=xaa h4;have ve:qrf P t=(List.range n).map fun i=>(i * ie.size,ie.size):=by simp[qrf,hk]
  obtain⟨tw,qxw,ma⟩:=fin (fun i=>some (i * ie.size,ie.size)) (fun i hi=>by rw[ve]at hi⊢;simp at hi;simp[hi]);refine⟨.agg tw,?_,done tw ma⟩;simp only[Instr.build,dh,hzv,po h2,dj,z8 lx,qxw,dy]
 |_=>simp[hk,TK.agg]at hag
theorem ja3{f:Fn}{first caps:List AV}{us vs:Array Value}(h1:us.size=first.length)(h2:vs.size=caps.length)
  (ll:∀(j:Nat) (x:AV) (v:Value),first[j]?=some x→us[j]?=some v→Rel c x v) (vo:∀(j:Nat) (x:AV) (v:Value),caps[j]?=some x→vs[j]?=some v→Rel c x v):Rel c (.fn f first caps) (.func f us vs) :=
 .fn f first caps us vs h1 h2 ll vo
theorem xl0{g:Operand→AV}{ev:Operand→Value}{l:Array Operand}(hg:∀x,x∈l.toList→Rel c (g x) (ev x)) :
  (l.map ev).size=(l.toList.map g).length∧∀(j:Nat) (x:AV) (v:Value),(l.toList.map g)[j]?=some x→(l.map ev)[j]?=some v→Rel c x v :=
 ⟨ae,fun j x v hx hv=>by
  simp only[dq,dn]at hx;obtain⟨o,ho,rfl⟩:=hx;simp only[gv,dn]at hv;obtain⟨o',ky,rfl⟩:=hv;have:o=o':=by simpa[ky]using ho.symm
  subst this;exact hg o (c7 ho)⟩
end
end Go.Abs

namespace Go.Abs
theorem xms{c:Ctx}{g:Operand→AV}{ev:Operand→Value}{x:Option Operand}(hg:∀y,x=some y→Rel c (g y) (ev y)) :
  (∀a,x.map g=some a→∃v,x.map ev=some v∧Rel c a v)∧(x.map g=none→x.map ev=none):=by
 cases x with
 |none=>simp
 |some y=>simp;exact hg y rfl
theorem xrl{P:Program}{c:Ctx}{h:gz}{w:World}{o:Oper}{g:Operand→AV}{ev:Operand→Value}(hs:HSim c h w)
  (hg:∀x,x∈o.op.operands.toList→Rel c (g x) (ev x)) (iq:(qb P g h o.op).side) :
  ∃v,(execOp ev o).run P w=.ok (.value v) w∧Rel c (qb P g h o.op).val v:=by
 obtain⟨dst,op,type,pos,after,guard⟩:=o;simp only at hg iq⊢;cases op with
 |move x=>exact⟨_,rfl,hg x bm⟩
 |assign x=>exact⟨_,rfl,hg x bm⟩
 |build t parts =>
  simp only[qb]at iq⊢;split at iq
  ·rename_i ys hf;obtain⟨r,hr,jz⟩:=jeq (P:=P) (c:=c) (w:=w) (t:=t) (ps:=parts.toList.map fun p=>(p.1,g p.2)) (qs:=parts.map fun p=>(p.1,ev p.2)) (ys:=ys) ae (fun k p q hp hq=>by
    simp only[dq,dn]at hp;obtain⟨a,ha,rfl⟩:=hp;simp only[gv,dn]at hq;obtain⟨b,hb,rfl⟩:=hq;have:a=b:=by simpa[hb]using ha.symm
    subst this;exact⟨rfl,hg a.2 (by simp only[Op.operands,List.toList_toArray,dk];exact⟨a,c7 ha,rfl⟩)⟩) iq hf
   exact⟨r,qgt,jz⟩
  ·exact iq.elim
 |load t a =>
  obtain⟨v,hv,hr⟩:=xoc (P:=P) (t:=t) hs (hg a bm) iq;exact⟨v,by simp[execOp,hv],hr⟩
 |nilCheck x =>
  have hr:=hg x bm;simp only[qb]at iq⊢;split at iq
  ·rename_i i o hx;rw[hx]at hr;obtain⟨b,hb,h1⟩:=qv8 hr;exact⟨_,by simp[execOp,hb],.ptr i o b h1⟩
  ·rename_i cells hx;rw[hx]at hr;obtain⟨b,o,hb,h1⟩:=xgn hr;exact⟨_,by simp[execOp,hb],xes h1⟩
  ·rename_i i n sz r q hx;rw[hx]at hr;obtain⟨b,o,len,cap,hb,h1⟩:=qxn hr;exact⟨_,by simp[execOp,hb],.optr _ _ _ _ _ b o len cap h1⟩
  ·rename_i f a cs hx;rw[hx]at hr;generalize hev:ev x=u at hr;cases hr with
   |data h=>cases h
   |fn f ys xs us vs pf hl h' h=>exact⟨.func (.func f) us vs,by simp[execOp,hev],.fn _ _ _ us vs pf hl h' h⟩
  ·exact iq.elim
 |binOp op T x y T' =>
  obtain⟨r,hr,jz⟩:=jlw (P:=P) (w:=w) (xo:=x) (yo:=y) (hg x bm) (hg y bm) iq;refine⟨r,?_,jz⟩;simp only[execOp,dh];simp only[dh]at hr;rw[hr];rfl
 |unOp op T x =>
  have hr:=hg x bm;cases op with
  |not =>
   simp only[qb]at iq⊢;split at iq
   ·rename_i b hx;rw[hx]at hr;exact⟨_,by simp[execOp,hr.val_inv,Op.unary],.val _⟩
   ·exact iq.elim
  |neg =>
   simp only[qb]at iq⊢;split at iq
   ·rename_i k n hx;rw[hx]at hr;exact⟨_,by simp[execOp,hr.val_inv,Op.unary,Op.intArith],.val _⟩
   ·exact iq.elim
  |_=>exact iq.elim
 |convert src dst x =>
  obtain⟨r,hr,jz⟩:=jew (P:=P) (w:=w) hs (hg x bm) iq;exact⟨r,qgt,jz⟩
 |makeInterface T x =>
  obtain⟨h1,h2⟩:=iq;obtain⟨i,d,z,g1,g2,g3,g4,_⟩:=lj (P:=P) (t:=T) rfl h2;refine⟨.iface T (ev x),?_,.iface T _ _ (hg x bm)⟩;simp only[execOp,Instr.makeInterface,dh,po g2,dj];cases d<;>simp;rename_i ms;exact h1 (by rw[←g4];rfl)
 |makeFunc f first caps =>
  have h1:=xl0 (c:=c) (g:=g) (ev:=ev) (l:=first) (fun x hx=>hg x (by simp[Op.operands]at hx⊢;exact .inl hx));have h2:=xl0 (c:=c) (g:=g) (ev:=ev) (l:=caps) (fun x hx=>hg x (by simp[Op.operands]at hx⊢;exact .inr hx));exact⟨_,by simp[execOp,Instr.makeFunc],ja3 h1.1 h2.1 h1.2 h2.2⟩
 |fieldAddr s x f =>
  have hr:=hg x bm;simp only[qb]at iq⊢;split at iq
  ·rename_i o n i off hf hx;rw[hx]at hr;obtain⟨b,hb,h1⟩:=qv8 hr;exact⟨_,qi1,.ptr _ _ b h1⟩
  ·rename_i o n cells hf hx;rw[hx]at hr;obtain⟨b,off,hb,h1⟩:=xgn hr;refine⟨.pointer (some ⟨b,off+o,none⟩),qi1,xes fun j x hx=>?_⟩;rw[ez]at hx;obtain⟨u,hu,hd⟩:=h1 _ x hx;exact⟨u,by rw[qli];exact hu,hd⟩
  ·rename_i o n i m sz r q hf hx;rw[hx]at hr;obtain⟨b,o',len,cap,hb,h1⟩:=qxn hr;refine⟨.pointer (some ⟨b,o'+(r * sz+q)+o,none⟩),qi1,?_⟩;have:=Rel.optr (c:=c) i m sz r (q+o) b o' len cap h1;rw[show o'+(r * sz+q)+o=o'+(r * sz+(q+o))by omega];exact this
  ·exact iq.elim
 |indexAddr T x i =>
  obtain⟨r,hr,jz⟩:=jh7 (P:=P) (w:=w) hs (qep hs (hg x bm)) (hg i bm) iq;exact⟨r,qgt,jz⟩
 |index T x i =>
  obtain⟨r,hr,jz⟩:=xy8 (P:=P) (w:=w) (hg x bm) (hg i bm) iq;exact⟨r,qgt,jz⟩
 |lookup T x i ok =>
  obtain⟨r,hr,jz⟩:=jml (P:=P) (w:=w) hs (hg x bm) (hg i bm) iq;exact⟨r,qgt,jz⟩
 |typeAssert x src dst ok =>
  obtain⟨r,hr,jz⟩:=jh8 (P:=P) (w:=w) (src:=src) (hg x bm) iq;exact⟨r,qgt,jz⟩
 |extract x n =>
  have hr:=hg x bm;simp only[qb]at iq⊢;split at iq
  ·rename_i vs hx;rw[hx]at hr;obtain⟨r,h1,h2⟩:=xxi (P:=P) (w:=w) hr iq;exact⟨r,by simp[execOp,h1],h2⟩
  ·exact iq.elim
 |slice T x lo hi mx =>
  have l1:=xms (c:=c) (g:=g) (ev:=ev) (x:=lo) (fun y hy=>hg y qkm);have l2:=xms (c:=c) (g:=g) (ev:=ev) (x:=hi) (fun y hy=>hg y qkm);have l3:=xms (c:=c) (g:=g) (ev:=ev) (x:=mx) (fun y hy=>hg y qkm);obtain⟨r,hr,jz⟩:=xy5 (P:=P) (w:=w) (qep hs (hg x bm)) l1.1 l1.2 l2.1 l2.2 l3.2 iq;exact⟨r,qgt,jz⟩
 |call cl =>
  obtain⟨callee,args,argTypes⟩:=cl;cases callee with
  |value f=>exact iq.elim
  |invoke r m=>exact iq.elim
  |builtin b =>
   cases b with
   |len =>
    simp only[qb]at iq⊢;split at iq
    ·rename_i x T hx hT;obtain rfl:args = #[x]:=gu hx;obtain rfl:argTypes = #[T]:=gu hT;obtain⟨r,hr,jz⟩:=jjk (P:=P) (w:=w) hs (qep hs (hg x qfl)) iq type;exact⟨r,qgh,jz⟩
    ·exact iq.elim
   |min =>
    simp only[qb]at iq⊢;split at iq
    ·rename_i x y hx;obtain rfl:args = #[x,y]:=gu hx;obtain⟨r,hr,jz⟩:=jk9 (P:=P) (w:=w) (hg x qfl) (hg y qfl) iq argTypes type;exact⟨r,qgh,jz⟩
    ·rename_i x y z hx;obtain rfl:args = #[x,y,z]:=gu hx;obtain⟨r,hr,jz⟩:=jns (P:=P) (w:=w) (hg x qfl) (hg y qfl) (hg z qfl) iq argTypes type;exact⟨r,qgh,jz⟩
    ·exact iq.elim
   |max =>
    simp only[qb]at iq⊢;split at iq
    ·rename_i x y hx;obtain rfl:args = #[x,y]:=gu hx;obtain⟨r,hr,jz⟩:=jap (P:=P) (w:=w) (hg x qfl) (hg y qfl) iq argTypes type;exact⟨r,qgh,jz⟩
    ·exact iq.elim
   |_=>exact iq.elim
 |_=>exact iq.elim
end Go.Abs


