/- Part 5 of a proof: AbsG, AbsH, AbsI, AbsJ -/
import Derived.Test.YtilhejdbiionhaaGreatDoorR02
import Derived.Test.YtilhejdbiionhaaGreatDoorR04
set_option linter.all false

namespace Go.Abs
theorem Rel.one{c:Ctx}{x:AV}{v:Value}(h:Rel c x v)(h1:x.one=true):v.oneCell'=true:=by
 cases h with
 |data h=>exact h.one
 |top v=>simp[AV.one]at h1
 |val v=>exact h1
 |nils=>rfl
 |agg=>simp[AV.one]at h1
 |tuple=>simp[AV.one]at h1
 |ptr=>rfl
 |eptr=>rfl
 |lit=>rfl
 |optr=>rfl
 |mapr=>rfl
 |fn=>rfl
 |iface=>rfl
 |own i n v h ho=>exact ho
 |opt=>simp[AV.one]at h1
theorem one_cells{v:Value}(h:v.oneCell'=true):v.cells = #[v]:=by
 cases v<;>first|rfl|simp[Value.oneCell']at h
theorem Rel.cells{c:Ctx}{x:AV}{v:Value}(h:Rel c x v)(h1:x.cellsOk=true) :
  v.cells.size=x.cells.length∧∀(j:Nat) (y:AV) (u:Value),x.cells[j]?=some y→v.cells[j]?=some u→Rel c y u∧u.oneCell'=true:=by
 have single:∀(x:AV) (v:Value),Rel c x v→x.one=true→x.cells=[x]→v.cells.size=x.cells.length∧∀(j:Nat) (y:AV) (u:Value),x.cells[j]?=some y→v.cells[j]?=some u→Rel c y u∧u.oneCell'=true:=by
  intro x v hr ho hx;have hv:=hr.one ho;rw[hx,one_cells hv];refine⟨rfl,fun j y u hy hu=>?_⟩;cases j with
  |zero=>simp at hy hu;subst hy;subst hu;exact⟨hr,hv⟩
  |succ j=>simp at hy
 cases x with
 |agg xs =>
  cases h with
  |data h=>cases h
  |agg xs vs hl ho hr=>exact⟨hl,fun j y u hy hu=>⟨hr j y u hy hu,ho j u hu⟩⟩
 |top=>simp[AV.cellsOk,AV.one]at h1
 |tuple=>simp[AV.cellsOk,AV.one]at h1
 |opt=>simp[AV.cellsOk,AV.one]at h1
 |_=>exact single _ _ h h1 rfl
section
variable {P:Program} {c:Ctx} {h:qab} {w:World}
theorem bound_run{d:Int}{x:Option AV}{u:Option Value}{n:Int}(hb:boundAV d x=some n)(hx:∀a,x=some a→∃v,u=some v∧Rel c a v)(hn:x=none→u=none) :
  (u=none∧n=d)∨(∃k,u=some (.int k n)):=by
 unfold boundAV at hb;split at hb
 ·rename_i h0;exact .inl ⟨hn rfl,by simpa using hb.symm⟩
 ·rename_i k m;obtain⟨v,hv,hr⟩:=hx _ rfl;obtain rfl:=hr.val_inv;simp at hb;subst hb;exact .inr ⟨k,hv⟩
 ·cases hb
theorem run_sliceBound{k:IntKind}{n:Int}{y:Nat}{code:BoundsCode}(h0:0≤n)(h1:n≤y):(Instr.sliceBound (.int k n) y code).run P w=.ok n.toNat w:=by
 simp[Instr.sliceBound,asIntOf,h0,h1]
theorem qeb{isS:Bool}{len cap:Nat}{lo hi:Option Value}{l h':Int}(hl:(lo=none∧l=0)∨∃k,lo=some (.int k l))(hh:(hi=none∧h'=len)∨∃k,hi=some (.int k h'))
  (h0:0≤l) (h1:l≤h') (h2:h'≤len) (h3:len≤cap):(Instr.sliceBounds isS len cap lo hi none).run P w=.ok (l.toNat,h'.toNat,cap) w:=by
 have hc:h'≤cap:=by omega
 have hn:l≤(h'.toNat:Int):=by omega
 have h0':0≤h':=by omega
 rcases hl with⟨rfl,rfl⟩|⟨k,rfl⟩<;>rcases hh with⟨rfl,rfl⟩|⟨k',rfl⟩
 ·simp[Instr.sliceBounds]
 ·simp[Instr.sliceBounds,run_sliceBound h0' hc]
 ·simp[Instr.sliceBounds,run_sliceBound h0 h1]
 ·simp[Instr.sliceBounds,run_sliceBound h0' hc,run_sliceBound h0 hn]
theorem slice_ok{T:TypeId}{x:AV}{lo hi mx:Option AV}{u:Value}{lo' hi' mx':Option Value}(hx:Rel c x u)
  (hlo:∀a,lo=some a→∃v,lo'=some v∧Rel c a v) (hlo0:lo=none→lo'=none) (hhi:∀a,hi=some a→∃v,hi'=some v∧Rel c a v) (hhi0:hi=none→hi'=none) (hmx:mx=none→mx'=none)
  (hside:(aSlice P T x lo hi mx).side):∃r,(Instr.sliceAt T u lo' hi' mx').run P w=.ok r w∧Rel c (aSlice P T x lo hi mx).val r:=by
 unfold aSlice at hside⊢;split at hside
 ·exact hside.elim
 ·obtain rfl:=hmx rfl;split at hside
  ·rename_i e sz rows hk;obtain⟨i',d,z,h1,h2,h3,h4,h5,_⟩:=qas hk (by simp);obtain⟨rfl,ie,hie,rfl⟩:=qbq h4;split at hside
   ·rename_i l hh hl hh';obtain⟨ha,hb,hc,hall⟩:=hside;have e1:=bound_run hl hlo hlo0;have e2:=bound_run hh' hhi hhi0;have hd:=hx.slice_inv;cases hd with
    |nil =>
     have hl0:l=0:=by simp at hc;omega
     have hh0:hh=0:=by simp at hc;omega
     subst hl0;subst hh0;refine⟨.slice none 0 0,?_,by simpa using .data .nil⟩;have:=qeb (P:=P) (w:=w) (isS:=true) (len:=0) (cap:=0) e1 e2 (by omega) (by omega) (by omega) (Nat.le_refl _);simp[Instr.sliceAt,Instr.slice,qa0 h2,this,qbh hie]
    |empty a =>
     have hl0:l=0:=by simp at hc;omega
     have hh0:hh=0:=by simp at hc;omega
     subst hl0;subst hh0;refine⟨.slice (some a) 0 0,?_,by simpa using .data (.empty a)⟩;have:=qeb (P:=P) (w:=w) (isS:=true) (len:=0) (cap:=0) e1 e2 (by omega) (by omega) (by omega) (Nat.le_refl _);simp[Instr.sliceAt,Instr.slice,qa0 h2,this,qbh hie]
    |slice rows b off cap sz g hsz' hB hc' hD hr =>
     have hrun:=qeb (P:=P) (w:=w) (isS:=true) (len:=rows.length) (cap:=cap) e1 e2 ha hb hc hc';have hlen:((rows.take hh.toNat).drop l.toNat).length=hh.toNat - l.toNat:=by simp;omega
     have hget:∀(i:Nat) (r:List AV),((rows.take hh.toNat).drop l.toNat)[i]?=some r→rows[l.toNat+i]?=some r:=fun i r hi=>by
      rw[List.getElem?_drop,List.getElem?_take]at hi;split at hi
      ·exact hi
      ·cases hi
     have hres:∀ad:Option Addr,(ad=some ⟨b,off,none⟩∧cap=l.toNat)∨ad=some ⟨b,off+l.toNat * ie.size,none⟩→(0<((rows.take hh.toNat).drop l.toNat).length→sz=ie.size) →
       Rel c (.slice ((rows.take hh.toNat).drop l.toNat)) (.slice ad (hh.toNat - l.toNat) (cap - l.toNat)):=by
      intro ad had hsz0;rw[←hlen];have base:∀o,(0<((rows.take hh.toNat).drop l.toNat).length→o=off+l.toNat * sz)→Rel c (.slice ((rows.take hh.toNat).drop l.toNat)) (.slice (some ⟨b,o,none⟩) ((rows.take hh.toNat).drop l.toNat).length (cap - l.toNat)):=by
       intro o ho;refine .data (.slice _ b o _ sz (fun i j=>g (l.toNat+i) j) (fun r hr'=>hsz' r (List.mem_of_mem_take (List.mem_of_mem_drop hr'))) (by rw[hlen];omega) (by rw[hlen];omega) (fun i j r x hr' hx'=>?_) fun i j r x hr' hx'=>hr _ j r x (hget i r hr') hx');have hpos:0<((rows.take hh.toNat).drop l.toNat).length:=Nat.lt_of_le_of_lt (Nat.zero_le _) (List.getElem?_eq_some_iff.1 hr').1;have:=hD _ j r x (hget i r hr') hx';rw[ho hpos];rw[Nat.add_mul]at this;rw[show off+l.toNat * sz+i * sz+j=off+(l.toNat * sz+i * sz)+j from by omega];exact this
      rcases had with⟨rfl,hcap⟩|rfl
      ·exact base off fun hpos=>by rw[hlen]at hpos;omega
      ·exact base _ fun hpos=>by rw[hsz0 hpos]
     have hszr:0<((rows.take hh.toNat).drop l.toNat).length→sz=ie.size:=fun hpos=>by
      rw[hlen]at hpos;have hlt:l.toNat<rows.length:=by omega
      rw[←hsz' rows[l.toNat] (by simp),hall rows[l.toNat] (by simp)]
     refine⟨.slice (if cap=l.toNat then some ⟨b,off,none⟩else some ⟨b,off+l.toNat * ie.size,none⟩) (hh.toNat - l.toNat) (cap - l.toNat),?_,?_⟩
     ·simp[Instr.sliceAt,Instr.slice,qa0 h2,hrun,qbh hie,qdv]
     ·split
      ·rename_i hcl;exact hres _ (.inl ⟨rfl,hcl⟩) hszr
      ·exact hres _ (.inr rfl) hszr
   ·exact hside.elim
  ·rename_i s hk;obtain⟨i',d,z,h1,h2,h3,h4,h5,_⟩:=qas hk (by simp);obtain rfl:=kind_string h4;obtain rfl:=hx.val_inv;split at hside
   ·rename_i l hh hl hh';obtain⟨ha,hb,hc⟩:=hside;have hrun:=qeb (P:=P) (w:=w) (isS:=false) (len:=s.size) (cap:=s.size) (bound_run hl hlo hlo0) (bound_run hh' hhi hhi0) ha hb hc (Nat.le_refl _);exact⟨_,by simp[Instr.sliceAt,Instr.slice,qa0 h2,hrun],.val _ (by
     have hso:=val_ok hx;simp only[strOk,decide_eq_true_eq]at hso⊢;rw[ByteArray.size_extract];omega)⟩
   ·exact hside.elim
  ·exact hside.elim
theorem min_ok{x y:AV}{u v:Value}(hx:Rel c x u)(hy:Rel c y v)(hside:(aMin x y).side)(ts:Array TypeId)(ty:TypeId):∃r,(Builtin.min_ ts ty #[u,v]).run P w=.ok r w∧Rel c (aMin x y).val r:=by
 unfold aMin at hside⊢;split at hside
 ·rename_i k a k' b;simp only at hside;subst hside;obtain rfl:=hx.val_inv;obtain rfl:=hy.val_inv;exact⟨_,by simp[Builtin.min_,Builtin.min2],.val _⟩
 ·exact hside.elim
theorem min_ok3{x y z:AV}{u v t:Value}(hx:Rel c x u)(hy:Rel c y v)(hz:Rel c z t)(hside:(aMin3 x y z).side)(ts:Array TypeId)(ty:TypeId):∃r,(Builtin.min_ ts ty #[u,v,t]).run P w=.ok r w∧Rel c (aMin3 x y z).val r:=by
 unfold aMin3 at hside⊢;split at hside
 ·rename_i k a k' b k2 d;simp only at hside;obtain⟨rfl,rfl⟩:=hside;obtain rfl:=hx.val_inv;obtain rfl:=hy.val_inv;obtain rfl:=hz.val_inv;exact⟨_,by simp[Builtin.min_,Builtin.min2],.val _⟩
 ·exact hside.elim
theorem max_ok{x y:AV}{u v:Value}(hx:Rel c x u)(hy:Rel c y v)(hside:(aMax x y).side)(ts:Array TypeId)(ty:TypeId):∃r,(Builtin.max_ ts ty #[u,v]).run P w=.ok r w∧Rel c (aMax x y).val r:=by
 unfold aMax at hside⊢;split at hside
 ·rename_i k a k' b;simp only at hside;subst hside;obtain rfl:=hx.val_inv;obtain rfl:=hy.val_inv;exact⟨_,by simp[Builtin.max_,Builtin.max2],.val _⟩
 ·exact hside.elim
theorem conv_ok{h:qab}(hs:HSim c h w){src dst:TypeId}{x:AV}{u:Value}(hx:Rel c x u)(hside:(aConv P src dst x).side):∃r,(convert src dst u).run P w=.ok r w∧Rel c (aConv P src dst x).val r:=by
 unfold aConv at hside⊢;split at hside
 ·rename_i k k' n hk;obtain⟨i',d,z,h1,h2,h3,h4,h5,_⟩:=qas hk (by simp);obtain rfl:=kind_int h4;obtain⟨i'',d',z',g1,g2,_⟩:=qas (P:=P) (t:=src) rfl hside;obtain rfl:=hx.val_inv;refine⟨.int k (k.wrap n),?_,.val _⟩;simp only[convert,Sem.run_bind,qa0 h2,qa0 g2,Result.andThen_ok];cases d'<;>simp[Conv.intToInt]
 ·rename_i s hk;obtain⟨i',d,z,h1,h2,h3,h4,h5,_⟩:=qas hk (by simp);obtain rfl:=kind_string h4;obtain⟨i'',d',z',g1,g2,_⟩:=qas (P:=P) (t:=src) rfl hside;obtain rfl:=hx.val_inv;refine⟨.string s,?_,.val _ (val_ok hx)⟩;simp only[convert,Sem.run_bind,qa0 h2,qa0 g2,Result.andThen_ok];cases d'<;>simp
 ·rename_i n hk;obtain⟨i',d,z,h1,h2,h3,h4,h5,_⟩:=qas hk (by simp);obtain rfl:=kind_string h4;simp only[byteSl]at hside;split at hside
  ·rename_i e sz hks;obtain⟨rfl,hke⟩:=hside;obtain⟨_,ds,_,_,g2,_,g4,_⟩:=qas hks (by simp);obtain⟨rfl,_⟩:=qbq g4;obtain⟨_,de,_,_,f2,_,f4,_⟩:=qas hke (by simp);obtain rfl:=kind_int f4;have hd:=hx.slice_inv;cases hd with
   |slice _ b off cap sz g hsz hB hc hD hr =>
    have hc0:w.cell? ⟨b,off,none⟩=some (g 0 0):=hs.data _ _ _ (by simpa using hD 0 0 _ _ rfl rfl);have hv:g 0 0=.int .u8 n:=by
     have h0:DRel c.D (.val (.int .u8 n)) (g 0 0):=hr 0 0 _ _ rfl rfl;generalize g 0 0=y at h0;cases h0;rfl
    rw[hv]at hc0;have hrun:=run_loadCells_list (P:=P) w ⟨b,off,none⟩ [.int .u8 n] (fun j v hj=>by
     cases j with
     |zero=>simp at hj;subst hj;simpa[qdv]using hc0
     |succ j=>simp at hj)
    refine⟨.string ⟨#[UInt8.ofNat n.toNat]⟩,?_,.val _ (by simp[strOk,ByteArray.size])⟩;simp only[List.length_singleton]at hrun;simp only[convert,Sem.run_bind,qa0 h2,qa0 g2,qa0 f2,Result.andThen_ok,Conv.bytesToString,List.length_singleton,hrun];simp[ByteArray.push,ByteArray.empty,ByteArray.emptyWithCapacity];rfl
  ·exact hside.elim
 ·exact hside.elim
theorem noIface{d:TypeDesc}(h1:qbd P d≠.iface):∀ms,d≠.interface ms:=fun ms h=>h1 (by rw[h];rfl)
theorem assert_ok{src dst:TypeId}{ok:Bool}{x:AV}{u:Value}(hx:Rel c x u)(hside:(aAssert P dst ok x).side):∃r,(Instr.typeAssert u src dst ok).run P w=.ok r w∧Rel c (aAssert P dst ok x).val r:=by
 have tup:∀(y:AV) (v:Value) (b:Bool),Rel c y v→Rel c (.tuple [y,.val (.bool b)]) (.tuple #[v,.bool b]):=fun y v b hy=>by
  refine .tuple _ _ rfl fun j z z' h1 h2=>?_
  match j with
  | 0=>simp at h1 h2;subst h1;subst h2;exact hy
  | 1=>simp at h1 h2;subst h1;subst h2;exact .val _
  |j+2=>simp at h1
 unfold aAssert at hside⊢;split at hside
 ·rename_i t v;obtain⟨v',rfl,hv⟩:∃v',u=.iface t v'∧Rel c v v':=by
   cases hx with
   |data h=>cases h
   |iface _ _ v' h=>exact⟨v',rfl,h⟩
  cases ht:t == dst with
  |true =>
   simp only[ht]at hside⊢;obtain⟨i,d,z,h1,h2,h3,h4,_⟩:=qas (P:=P) (t:=dst) rfl hside.2;have hd:=noIface (P:=P) (d:=d) (by rw[h4];exact hside.1);have he:t=dst:=by simpa using ht
   refine⟨.tuple #[v',.bool true],?_,tup _ _ _ hv⟩;cases d<;>first|(exact(hd _ rfl).elim)|simp[Instr.typeAssert,qa0 h2,he]
  |false =>
   simp only[ht]at hside⊢;split at hside
   ·rename_i z hz;simp only[hz];obtain⟨i,d,z',h1,h2,h3,h4,_⟩:=qas (P:=P) (t:=dst) rfl hside.2;have hd:=noIface (P:=P) (d:=d) (by rw[h4];exact hside.1);have he:¬t=dst:=by simpa using ht
    obtain⟨zv,hzv,hzr⟩:=zeroAV_ok (P:=P) (w:=w) (c:=c) hz;refine⟨.tuple #[zv,.bool false],?_,tup _ _ _ hzr⟩;cases d<;>first|(exact(hd _ rfl).elim)|simp[Instr.typeAssert,qa0 h2,he,hzv]
   ·exact hside.elim
 ·rename_i t v;obtain⟨v',rfl,hv⟩:∃v',u=.iface t v'∧Rel c v v':=by
   cases hx with
   |data h=>cases h
   |iface _ _ v' h=>exact⟨v',rfl,h⟩
  obtain⟨he,hk1,hk2⟩:=hside;obtain⟨i,d,z',h1,h2,h3,h4,_⟩:=qas (P:=P) (t:=dst) rfl hk2;have hd:=noIface (P:=P) (d:=d) (by rw[h4];exact hk1);refine⟨v',?_,hv⟩;cases d<;>first|(exact(hd _ rfl).elim)|simp[Instr.typeAssert,qa0 h2,he]
 ·obtain rfl:=hx.val_inv;split at hside
  ·rename_i z hz;simp only[hz];obtain⟨i,d,z',h1,h2,h3,h4,_⟩:=qas (P:=P) (t:=dst) rfl hside.2;have hd:=noIface (P:=P) (d:=d) (by rw[h4];exact hside.1);obtain⟨zv,hzv,hzr⟩:=zeroAV_ok (P:=P) (w:=w) (c:=c) hz;refine⟨.tuple #[zv,.bool false],?_,tup _ _ _ hzr⟩;cases d<;>first|(exact(hd _ rfl).elim)|simp[Instr.typeAssert,qa0 h2,hzv]
  ·exact hside.elim
 ·exact hside.elim
theorem extract_ok{vs:List AV}{n:Nat}{u:Value}(hx:Rel c (.tuple vs) u)(hside:n<vs.length):∃r,(Instr.extract u n).run P w=.ok r w∧Rel c (vs.getD n .top) r:=by
 cases hx with
 |data h=>cases h
 |tuple xs us hl hr =>
  have hlt:n<us.size:=by omega
  refine⟨us[n],by simp[Instr.extract,hlt],hr n _ _ (by simp[List.getD,hside]) (by simp[hlt])⟩
end
end Go.Abs

namespace Go.Abs
def CellsR(c:Ctx)(xs:List AV)(vs:Array Value):Prop :=
 vs.size=xs.length∧∀(j:Nat) (x:AV) (v:Value),xs[j]?=some x→vs[j]?=some v→Rel c x v∧v.oneCell'=true
theorem setAll_get(off:Nat):∀(l:List Value) (s:Nat) (cs:Array Value),((l.zipIdx s).foldl (fun (cs:Array Value) (p:Value×Nat)=>cs.setIfInBounds (off+p.2) p.1) cs).size=cs.size ∧
  (off+s+l.length≤cs.size→∀k,((l.zipIdx s).foldl (fun (cs:Array Value) (p:Value×Nat)=>cs.setIfInBounds (off+p.2) p.1) cs)[k]?=if off+s≤k∧k<off+s+l.length then l[k - (off+s)]? else cs[k]?)
 | [],s,cs=>⟨rfl,fun _ k=>by simp;intro h1 h2;omega⟩
 |v::l,s,cs=>by
  obtain⟨h1,h2⟩:=setAll_get off l (s+1) (cs.setIfInBounds (off+s) v);refine⟨by simpa using h1,fun hle k=>?_⟩;simp only[List.length_cons]at hle;have:=h2 (by simp;omega) k;simp only[List.zipIdx_cons,List.foldl_cons];rw[this];by_cases hk:k=off+s
  ·subst hk;rw[if_neg (by omega),if_pos (by simp)];have hlt:off+s<cs.size:=by omega
   simp[Array.getElem?_setIfInBounds,hlt]
  ·by_cases hk2:off+(s+1)≤k∧k<off+(s+1)+l.length
   ·rw[if_pos hk2,if_pos (by simp only[List.length_cons];omega),show k - (off+s)=(k - (off+(s+1)))+1 from by omega];simp
   ·rw[if_neg hk2,if_neg (by simp only[List.length_cons];omega),Array.getElem?_setIfInBounds_ne (fun e=>hk e.symm)]
theorem fillOne{c:Ctx}{xs:List AV}{cs:Array Value}(hc:CellsR c xs cs){x:AV}{v:Value}(hr:Rel c x v)(ho:x.cellsOk=true){off:Nat}(hle:off+x.cells.length≤xs.length) :
  CellsR c (xs.take off++x.cells++xs.drop (off+x.cells.length)) (v.cells.zipIdx.foldl (fun (cs:Array Value) (p:Value×Nat)=>cs.setIfInBounds (off+p.2) p.1) cs):=by
 obtain⟨hsz,hcell⟩:=hr.cells ho;rw[←Array.foldl_toList,Array.toList_zipIdx];obtain⟨h1,h2⟩:=setAll_get off v.cells.toList 0 cs;have h2:=h2 (by simp;rw[hsz,hc.1];exact hle);refine⟨by rw[h1,hc.1];simp;omega,fun j y u hy hu=>?_⟩;rw[h2 j]at hu;simp only[Nat.add_zero,Array.length_toList,hsz]at hu;split at hu
 ·rename_i hj;rw[List.append_assoc,List.getElem?_append_right (by simp;omega),List.getElem?_append_left (by simp;omega)]at hy;have hmin:min off xs.length=off:=by omega
  simp only[List.length_take,hmin]at hy;exact hcell _ y u hy (by simpa using hu)
 ·rename_i hj;by_cases hlt:j<off
  ·rw[List.append_assoc,List.getElem?_append_left (by simp;omega),List.getElem?_take,if_pos hlt]at hy;exact hc.2 j y u hy hu
  ·rw[List.getElem?_append_right (by simp;omega),List.getElem?_drop]at hy;simp only[List.length_append,List.length_take]at hy;rw[show off+x.cells.length+(j - (min off xs.length+x.cells.length))=j from by omega]at hy;exact hc.2 j y u hy hu
theorem fill_ok{c:Ctx}{fs:List (Nat×Nat)}{place:Nat→Option (Nat×Nat)}(hp:∀i,i<fs.length→place i=fs[i]?):∀(ps:List (Nat×AV)) (qs:List (Nat×Value)) (xs ys:List AV) (cs:Array Value),
  ps.length=qs.length→(∀(k:Nat) (p:Nat×AV) (q:Nat×Value),ps[k]?=some p→qs[k]?=some q→p.1=q.1∧Rel c p.2 q.2)→CellsR c xs cs→fillL fs ps xs=some ys →
  ∃cs',Instr.fill place cs qs=some cs'∧CellsR c ys cs'
 | [],[],xs,ys,cs,_,_,hc,h=>by simp only[fillL,Option.some.injEq]at h;subst h;exact⟨cs,rfl,hc⟩
 | [],_::_,_,_,_,hl,_,_,_=>by simp at hl
 |_::_,[],_,_,_,hl,_,_,_=>by simp at hl
 |(i,x)::ps,(i',v)::qs,xs,ys,cs,hl,hpq,hc,h=>by
  obtain⟨he,hr⟩:=hpq 0 (i,x) (i',v) rfl rfl;simp only at he hr;subst he;simp only[fillL]at h;split at h
  ·rename_i o n hf;split at h
   ·rename_i hcond;obtain⟨ho,rfl,hle⟩:=hcond;have hsz:=(hr.cells ho).1;obtain⟨cs',h1,h2⟩:=fill_ok hp ps qs _ ys _ (by simpa using hl) (fun k p q hp hq=>hpq (k+1) p q (by simpa using hp) (by simpa using hq)) (fillOne hc hr ho hle) h;refine⟨cs',?_,h2⟩;simp only[Instr.fill,hp i (List.getElem?_eq_some_iff.1 hf).1,hf];have hno:(decide (v.cells.size≠x.cells.length)||decide (o+v.cells.size > cs.size))=false:=by
     rw[hsz,hc.1];simp;omega
    rw[if_neg (by rw[hsz,hc.1];simp;omega)];exact h1
   ·cases h
  ·cases h
theorem zero_rel(c:Ctx)(v:Value):Rel c (liftC v) v:=by
 exact liftC_rel c v
theorem zero_cells(c:Ctx){z:Value}(h:∀v,v∈z.cells.toList→v.oneCell'=true):CellsR c (z.cells.toList.map liftC) z.cells :=
 ⟨by simp,fun j x v hx hv=>by
  simp only[List.getElem?_map,Option.map_eq_some_iff]at hx;obtain⟨u,hu,rfl⟩:=hx;have:u=v:=by simpa[hv]using hu.symm
  subst this;exact⟨zero_rel c u,h u (List.mem_of_getElem? hu)⟩⟩
theorem run_mapM_list{P:Program}{α β:Type}{f:α→Sem β}{g:α→β}{w:World}:∀(l:List α),(∀x,x∈l→(f x).run P w=.ok (g x) w)→(l.mapM f).run P w=.ok (l.map g) w
 | [],_=>by simp
 |x::l,h=>by
  simp only[List.mapM_cons,Sem.run_bind,h x (by simp),Result.andThen_ok,run_mapM_list l (fun y hy=>h y (by simp[hy])),Sem.run_pure,List.map_cons]
theorem run_mapM_array{P:Program}{α β:Type}{f:α→Sem β}{g:α→β}{w:World}(l:Array α)(h:∀x,x∈l.toList→(f x).run P w=.ok (g x) w):(l.mapM f).run P w=.ok (l.map g) w:=by
 rw[Array.mapM_eq_mapM_toList];simp only[Sem.run_map,run_mapM_list l.toList h,Result.andThen_ok];congr 1;apply Array.ext';simp
section
variable {P:Program} {c:Ctx} {h:qab} {w:World}
theorem build_ok{t:TypeId}{ps:List (Nat×AV)}{qs:Array (Nat×Value)}{ys:List AV}(hl:ps.length=qs.size)
  (hpq:∀(k:Nat) (p:Nat×AV) (q:Nat×Value),ps[k]?=some p→qs[k]?=some q→p.1=q.1∧Rel c p.2 q.2) (hag:(qah P t).agg=true) (hf:fillL (places P t) ps (qba P t)=some ys) :
  ∃r,(Instr.build t qs).run P w=.ok r w∧Rel c (.agg ys) r:=by
 have hne:qah P t≠.other:=fun e=>by simp[e,TK.agg]at hag
 obtain⟨i,d,z,h1,h2,h3,h4,h5,h6,h7,h8⟩:=qas (P:=P) (t:=t) rfl hne;rw[h6]at hf;have hz:=zero_cells c h8;have hzv:(zeroValue t).run P w=.ok z w:=by simp[zeroValue,run_typeInfo _ h1,h3]
 have fin:∀(place:Nat→Option (Nat×Nat)),(∀i,i<(places P t).length→place i=(places P t)[i]?)→∃cs',Instr.fill place z.cells qs.toList=some cs'∧CellsR c ys cs':=fun place hp =>
  fill_ok hp ps qs.toList _ ys z.cells (by simpa using hl) (fun k p q hp hq=>hpq k p q hp (by simpa using hq)) hz hf
 have done:∀cs',CellsR c ys cs'→Rel c (.agg ys) (.agg cs'):=fun cs' hcs=>.agg ys cs' hcs.1 (fun j v hv=>by
   have hlt:j<ys.length:=by rw[←hcs.1];exact(Array.getElem?_eq_some_iff.1 hv).1
   exact(hcs.2 j ys[j] v (by simp[hlt]) hv).2) fun j x v hx hv=>(hcs.2 j x v hx hv).1
 cases hk:qah P t with
 |struct fs =>
  rw[hk]at h4;obtain⟨l,rfl,hall,rfl⟩:=kind_struct h4;have hpl:places P t=l.toList.map fun f=>(f.offset,P.cellsOf f.type):=by simp[places,hk]
  obtain⟨cs',hfill,hcs⟩:=fin (fun i=>(l.map fun f=>(f.offset,P.cellsOf f.type))[i]?) (fun i _=>by rw[hpl];simp);refine⟨.agg cs',?_,done cs' hcs⟩;have hm:(l.mapM fun f=>(do pure (f.offset,←sizeOf f.type):Sem (Nat×Nat))).run P w=.ok (l.map fun f=>(f.offset,P.cellsOf f.type)) w:=run_mapM_array l fun f hf'=>by
   obtain⟨i',hi'⟩:=hall f hf';simp[qbh hi',Program.cellsOf,hi']
  simp only[Instr.build,Sem.run_bind,hzv,qa0 h2,Result.andThen_ok,hm,hfill,Sem.run_pure]
 |array n e sz =>
  rw[hk]at h4;obtain⟨rfl,ie,hie,rfl⟩:=kind_array h4;have hpl:places P t=(List.range n).map fun i=>(i * ie.size,ie.size):=by simp[places,hk]
  obtain⟨cs',hfill,hcs⟩:=fin (fun i=>some (i * ie.size,ie.size)) (fun i hi=>by rw[hpl]at hi⊢;simp at hi;simp[hi]);refine⟨.agg cs',?_,done cs' hcs⟩;simp only[Instr.build,Sem.run_bind,hzv,qa0 h2,Result.andThen_ok,qbh hie,hfill,Sem.run_pure]
 |_=>simp[hk,TK.agg]at hag
theorem fn_ok{f:Fn}{first caps:List AV}{us vs:Array Value}(h1:us.size=first.length)(h2:vs.size=caps.length)
  (h1':∀(j:Nat) (x:AV) (v:Value),first[j]?=some x→us[j]?=some v→Rel c x v) (h2':∀(j:Nat) (x:AV) (v:Value),caps[j]?=some x→vs[j]?=some v→Rel c x v):Rel c (.fn f first caps) (.func f us vs) :=
 .fn f first caps us vs h1 h2 h1' h2'
theorem relMap{g:Operand→AV}{ev:Operand→Value}{l:Array Operand}(hg:∀x,x∈l.toList→Rel c (g x) (ev x)) :
  (l.map ev).size=(l.toList.map g).length∧∀(j:Nat) (x:AV) (v:Value),(l.toList.map g)[j]?=some x→(l.map ev)[j]?=some v→Rel c x v :=
 ⟨by simp,fun j x v hx hv=>by
  simp only[List.getElem?_map,Option.map_eq_some_iff]at hx;obtain⟨o,ho,rfl⟩:=hx;simp only[Array.getElem?_map,Option.map_eq_some_iff]at hv;obtain⟨o',ho',rfl⟩:=hv;have:o=o':=by simpa[ho']using ho.symm
  subst this;exact hg o (List.mem_of_getElem? ho)⟩
end
end Go.Abs

namespace Go.Abs
theorem optRel{c:Ctx}{g:Operand→AV}{ev:Operand→Value}{x:Option Operand}(hg:∀y,x=some y→Rel c (g y) (ev y)) :
  (∀a,x.map g=some a→∃v,x.map ev=some v∧Rel c a v)∧(x.map g=none→x.map ev=none):=by
 cases x with
 |none=>simp
 |some y=>simp;exact hg y rfl
theorem still_ok{P:Program}{c:Ctx}{h:qab}{w:World}{o:Oper}{g:Operand→AV}{ev:Operand→Value}(hs:HSim c h w)
  (hg:∀x,x∈o.op.operands.toList→Rel c (g x) (ev x)) (hside:(qbp P g h o.op).side) :
  ∃v,(execOp ev o).run P w=.ok (.value v) w∧Rel c (qbp P g h o.op).val v:=by
 obtain⟨dst,op,type,pos,after,guard⟩:=o;simp only at hg hside⊢;cases op with
 |move x=>exact⟨_,rfl,hg x (by simp[Op.operands])⟩
 |assign x=>exact⟨_,rfl,hg x (by simp[Op.operands])⟩
 |build t parts =>
  simp only[qbp]at hside⊢;split at hside
  ·rename_i ys hf;obtain⟨r,hr,hrel⟩:=build_ok (P:=P) (c:=c) (w:=w) (t:=t) (ps:=parts.toList.map fun p=>(p.1,g p.2)) (qs:=parts.map fun p=>(p.1,ev p.2)) (ys:=ys) (by simp) (fun k p q hp hq=>by
    simp only[List.getElem?_map,Option.map_eq_some_iff]at hp;obtain⟨a,ha,rfl⟩:=hp;simp only[Array.getElem?_map,Option.map_eq_some_iff]at hq;obtain⟨b,hb,rfl⟩:=hq;have:a=b:=by simpa[hb]using ha.symm
    subst this;exact⟨rfl,hg a.2 (by simp only[Op.operands,List.toList_toArray,List.mem_map];exact⟨a,List.mem_of_getElem? ha,rfl⟩)⟩) hside hf
   exact⟨r,by simp[execOp,hr],hrel⟩
  ·exact hside.elim
 |load t a =>
  obtain⟨v,hv,hr⟩:=loadAt_ok (P:=P) (t:=t) hs (hg a (by simp[Op.operands])) hside;exact⟨v,by simp[execOp,hv],hr⟩
 |nilCheck x =>
  have hr:=hg x (by simp[Op.operands]);simp only[qbp]at hside⊢;split at hside
  ·rename_i i o hx;rw[hx]at hr;obtain⟨b,hb,h1⟩:=ptr_inv hr;exact⟨_,by simp[execOp,hb],.ptr i o b h1⟩
  ·rename_i cells hx;rw[hx]at hr;obtain⟨b,o,hb,h1⟩:=eptr_cells hr;exact⟨_,by simp[execOp,hb],eptr_mk h1⟩
  ·rename_i i n sz r q hx;rw[hx]at hr;obtain⟨b,o,len,cap,hb,h1⟩:=optr_inv hr;exact⟨_,by simp[execOp,hb],.optr _ _ _ _ _ b o len cap h1⟩
  ·rename_i f a cs hx;rw[hx]at hr;generalize hev:ev x=u at hr;cases hr with
   |data h=>cases h
   |fn f ys xs us vs hl' hl h' h=>exact⟨.func (.func f) us vs,by simp[execOp,hev],.fn _ _ _ us vs hl' hl h' h⟩
  ·exact hside.elim
 |binOp op T x y T' =>
  obtain⟨r,hr,hrel⟩:=bin_ok (P:=P) (w:=w) (xo:=x) (yo:=y) (hg x (by simp[Op.operands])) (hg y (by simp[Op.operands])) hside;refine⟨r,?_,hrel⟩;simp only[execOp,Sem.run_bind];simp only[Sem.run_bind]at hr;rw[hr];rfl
 |unOp op T x =>
  have hr:=hg x (by simp[Op.operands]);cases op with
  |not =>
   simp only[qbp]at hside⊢;split at hside
   ·rename_i b hx;rw[hx]at hr;exact⟨_,by simp[execOp,hr.val_inv,Op.unary],.val _⟩
   ·exact hside.elim
  |neg =>
   simp only[qbp]at hside⊢;split at hside
   ·rename_i k n hx;rw[hx]at hr;exact⟨_,by simp[execOp,hr.val_inv,Op.unary,Op.intArith],.val _⟩
   ·exact hside.elim
  |_=>exact hside.elim
 |convert src dst x =>
  obtain⟨r,hr,hrel⟩:=conv_ok (P:=P) (w:=w) hs (hg x (by simp[Op.operands])) hside;exact⟨r,by simp[execOp,hr],hrel⟩
 |makeInterface T x =>
  obtain⟨h1,h2⟩:=hside;obtain⟨i,d,z,g1,g2,g3,g4,_⟩:=qas (P:=P) (t:=T) rfl h2;refine⟨.iface T (ev x),?_,.iface T _ _ (hg x (by simp[Op.operands]))⟩;simp only[execOp,Instr.makeInterface,Sem.run_bind,qa0 g2,Result.andThen_ok];cases d<;>simp;rename_i ms;exact h1 (by rw[←g4];rfl)
 |makeFunc f first caps =>
  have h1:=relMap (c:=c) (g:=g) (ev:=ev) (l:=first) (fun x hx=>hg x (by simp[Op.operands]at hx⊢;exact .inl hx));have h2:=relMap (c:=c) (g:=g) (ev:=ev) (l:=caps) (fun x hx=>hg x (by simp[Op.operands]at hx⊢;exact .inr hx));exact⟨_,by simp[execOp,Instr.makeFunc],fn_ok h1.1 h2.1 h1.2 h2.2⟩
 |fieldAddr s x f =>
  have hr:=hg x (by simp[Op.operands]);simp only[qbp]at hside⊢;split at hside
  ·rename_i o n i off hf hx;rw[hx]at hr;obtain⟨b,hb,h1⟩:=ptr_inv hr;exact⟨_,by simp[execOp,hb,fieldAt_run hf],.ptr _ _ b h1⟩
  ·rename_i o n cells hf hx;rw[hx]at hr;obtain⟨b,off,hb,h1⟩:=eptr_cells hr;refine⟨.pointer (some ⟨b,off+o,none⟩),by simp[execOp,hb,fieldAt_run hf],eptr_mk fun j x hx=>?_⟩;rw[List.getElem?_drop]at hx;obtain⟨u,hu,hd⟩:=h1 _ x hx;exact⟨u,by rw[Nat.add_assoc];exact hu,hd⟩
  ·rename_i o n i m sz r q hf hx;rw[hx]at hr;obtain⟨b,o',len,cap,hb,h1⟩:=optr_inv hr;refine⟨.pointer (some ⟨b,o'+(r * sz+q)+o,none⟩),by simp[execOp,hb,fieldAt_run hf],?_⟩;have:=Rel.optr (c:=c) i m sz r (q+o) b o' len cap h1;rw[show o'+(r * sz+q)+o=o'+(r * sz+(q+o))by omega];exact this
  ·exact hside.elim
 |field s x f =>
  have hr:=hg x (by simp[Op.operands]);simp only[qbp]at hside⊢;split at hside
  ·rename_i o t cs hf hx;obtain⟨hcl,ho,hag⟩:=hside;rw[hx]at hr;unfold aFieldK at hf;split at hf
   ·rename_i fs hu;obtain⟨fd,hfd,he⟩:=Option.map_eq_some_iff.1 hf;cases he;obtain⟨i2,d2,z2,g1,g2,g3,g4,g5,_⟩:=qas rfl ho;have ha:=run_isAggD g2 (by rw[g4];exact ho) w;rw[g4,hag]at ha;obtain⟨v,hv⟩:∃v,ev x=v:=⟨_,rfl⟩
    rw[hv]at hr;cases hr with
    |data hd=>cases hd
    |agg _ vs hl hone hr' =>
     have hlv:fd.offset<vs.size:=by omega
     refine⟨vs[fd.offset],?_,hr' fd.offset _ _ (by rw[List.getD_eq_getElem?_getD,List.getElem?_eq_getElem hcl,Option.getD_some]) (by simp[hlv])⟩;simp[execOp,hv,Instr.field,qa0 hu,hfd,part,ha,hlv,asAgg]
   ·cases hf
  ·exact hside.elim
 |indexAddr T x i =>
  obtain⟨r,hr,hrel⟩:=indexAddr_ok (P:=P) (w:=w) hs (norm_rel hs (hg x (by simp[Op.operands]))) (hg i (by simp[Op.operands])) hside;exact⟨r,by simp[execOp,hr],hrel⟩
 |index T x i =>
  obtain⟨r,hr,hrel⟩:=index_ok (P:=P) (w:=w) (hg x (by simp[Op.operands])) (hg i (by simp[Op.operands])) hside;exact⟨r,by simp[execOp,hr],hrel⟩
 |lookup T x i ok =>
  obtain⟨r,hr,hrel⟩:=lookup_ok (P:=P) (w:=w) hs (hg x (by simp[Op.operands])) (hg i (by simp[Op.operands])) hside;exact⟨r,by simp[execOp,hr],hrel⟩
 |typeAssert x src dst ok =>
  obtain⟨r,hr,hrel⟩:=assert_ok (P:=P) (w:=w) (src:=src) (hg x (by simp[Op.operands])) hside;exact⟨r,by simp[execOp,hr],hrel⟩
 |extract x n =>
  have hr:=hg x (by simp[Op.operands]);simp only[qbp]at hside⊢;split at hside
  ·rename_i vs hx;rw[hx]at hr;obtain⟨r,h1,h2⟩:=extract_ok (P:=P) (w:=w) hr hside;exact⟨r,by simp[execOp,h1],h2⟩
  ·exact hside.elim
 |slice T x lo hi mx =>
  have l1:=optRel (c:=c) (g:=g) (ev:=ev) (x:=lo) (fun y hy=>hg y (by simp[Op.operands,hy]));have l2:=optRel (c:=c) (g:=g) (ev:=ev) (x:=hi) (fun y hy=>hg y (by simp[Op.operands,hy]));have l3:=optRel (c:=c) (g:=g) (ev:=ev) (x:=mx) (fun y hy=>hg y (by simp[Op.operands,hy]));obtain⟨r,hr,hrel⟩:=slice_ok (P:=P) (w:=w) (norm_rel hs (hg x (by simp[Op.operands]))) l1.1 l1.2 l2.1 l2.2 l3.2 hside;exact⟨r,by simp[execOp,hr],hrel⟩
 |call cl =>
  obtain⟨callee,args,argTypes⟩:=cl;cases callee with
  |value f=>exact hside.elim
  |invoke r m=>exact hside.elim
  |builtin b =>
   cases b with
   |len =>
    simp only[qbp]at hside⊢;split at hside
    ·rename_i x T hx hT;obtain rfl:args = #[x]:=Array.ext' hx;obtain rfl:argTypes = #[T]:=Array.ext' hT;obtain⟨r,hr,hrel⟩:=len_ok (P:=P) (w:=w) hs (norm_rel hs (hg x (by simp[Op.operands,Call.operands]))) hside type;exact⟨r,by simp[execOp,resolve,invoke,builtin,hr],hrel⟩
    ·exact hside.elim
   |min =>
    simp only[qbp]at hside⊢;split at hside
    ·rename_i x y hx;obtain rfl:args = #[x,y]:=Array.ext' hx;obtain⟨r,hr,hrel⟩:=min_ok (P:=P) (w:=w) (hg x (by simp[Op.operands,Call.operands])) (hg y (by simp[Op.operands,Call.operands])) hside argTypes type;exact⟨r,by simp[execOp,resolve,invoke,builtin,hr],hrel⟩
    ·rename_i x y z hx;obtain rfl:args = #[x,y,z]:=Array.ext' hx;obtain⟨r,hr,hrel⟩:=min_ok3 (P:=P) (w:=w) (hg x (by simp[Op.operands,Call.operands])) (hg y (by simp[Op.operands,Call.operands])) (hg z (by simp[Op.operands,Call.operands])) hside argTypes type;exact⟨r,by simp[execOp,resolve,invoke,builtin,hr],hrel⟩
    ·exact hside.elim
   |max =>
    simp only[qbp]at hside⊢;split at hside
    ·rename_i x y hx;obtain rfl:args = #[x,y]:=Array.ext' hx;obtain⟨r,hr,hrel⟩:=max_ok (P:=P) (w:=w) (hg x (by simp[Op.operands,Call.operands])) (hg y (by simp[Op.operands,Call.operands])) hside argTypes type;exact⟨r,by simp[execOp,resolve,invoke,builtin,hr],hrel⟩
    ·exact hside.elim
   |_=>exact hside.elim
 |_=>exact hside.elim
end Go.Abs


