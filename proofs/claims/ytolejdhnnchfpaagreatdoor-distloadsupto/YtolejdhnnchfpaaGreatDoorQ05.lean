/- Part 5 of a proof. -/
import Derived.Test.YtolejdhnnchfpaaGreatDoorQ04
set_option linter.all false

namespace Go.Abs
theorem Rel.one{c:Ctx}{x:AV}{v:Value}(h:Rel c x v)(h1:x.one=true):v.oneCell'=true:=by
 cases h with
 |data h=>exact h.one
 |top v=>simp[AV.one]at h1
 |val v=>exact h1
 |nils=>rfl
 |agg=>simp[AV.one]at h1
 |tuple=>simp[AV.one]at h1
 |ptr=>rfl
 |eptr=>rfl
 |lit=>rfl
 |cap=>rfl
 |optr=>rfl
 |mapr=>rfl
 |fn=>rfl
 |iface=>rfl
 |own i n v h ho=>exact ho
 |opt=>simp[AV.one]at h1
theorem xss{v:Value}(h:v.oneCell'=true):v.cells = #[v]:=by
 cases v<;>first|rfl|simp[Value.oneCell']at h
theorem Rel.cells{c:Ctx}{x:AV}{v:Value}(h:Rel c x v)(h1:x.cellsOk=true) :
  v.cells.size=x.cells.length/\∀(j:Nat) (y:AV) (u:Value),x.cells[j]?=some y->v.cells[j]?=some u->Rel c y u/\u.oneCell'=true:=by
 have single:∀(x:AV) (v:Value),Rel c x v->x.one=true->x.cells=[x]->v.cells.size=x.cells.length/\∀(j:Nat) (y:AV) (u:Value),x.cells[j]?=some y->v.cells[j]?=some u->Rel c y u/\u.oneCell'=true:=by
  intro x v hr ho hx;have hv:=hr.one ho;rw[hx,xss hv];refine⟨rfl,λj y u hy hu=>?_⟩;cases j with
  |zero=>simp at hy hu;subst hy;subst hu;exact⟨hr,hv⟩
  |succ j=>simp at hy
 cases x with
 |agg xs =>
  cases h with
  |data h=>cases h
  |agg xs vs hl ho hr=>exact⟨hl,λj y u hy hu=>⟨hr j y u hy hu,ho j u hu⟩⟩
 |top=>simp[AV.cellsOk,AV.one]at h1
 |tuple=>simp[AV.cellsOk,AV.one]at h1
 |opt=>simp[AV.cellsOk,AV.one]at h1
 |_=>exact single _ _ h h1 rfl
section
variable {P:Program} {c:Ctx} {h:g9} {w:World}
theorem xdb{d:Int}{x:Option AV}{u:Option Value}{n:Int}(hb:qvq d x=some n)(hx:∀a,x=some a->∃v,u=some v/\Rel c a v)(hn:x=none->u=none) :
  (u=none/\n=d)\/(∃k,u=some (.int k n)):=by
 unfold qvq at hb;split at hb
 .grind
 .rename_i k m;obtain⟨v,hv,hr⟩:=hx _ rfl;obtain rfl:=hr.val_inv;simp at hb;subst hb;exact .inr ⟨k,hv⟩
 .cases hb
theorem qc5{k:IntKind}{n:Int}{y:Nat}{code:BoundsCode}(h0:0<=n)(h1:n<=y):(Instr.sliceBound (.int k n) y code).run P w=.ok n.toNat w:=by
 simp[Instr.sliceBound,asIntOf,h0,h1]
theorem qeg{isS:Bool}{len cap:Nat}{lo hi:Option Value}{l h':Int}(hl:(lo=none/\l=0)\/∃k,lo=some (.int k l))(hh:(hi=none/\h'=len)\/∃k,hi=some (.int k h'))
  (h0:0<=l) (h1:l<=h') (h2:h'<=len) (h3:len<=cap):(Instr.sliceBounds isS len cap lo hi none).run P w=.ok (l.toNat,h'.toNat,cap) w:=by
 have hc:h'<=cap:=aa;have hn:l<=(h'.toNat:Int):=aa;have h0':0<=h':=aa;rcases hl with⟨rfl,rfl⟩|⟨k,rfl⟩<;>rcases hh with⟨rfl,rfl⟩|⟨k',rfl⟩
 .simp[Instr.sliceBounds]
 .simp[Instr.sliceBounds,qc5 h0' hc]
 .simp[Instr.sliceBounds,qc5 h0 h1]
 .simp[Instr.sliceBounds,qc5 h0' hc,qc5 h0 hn]
theorem jjt{T:TypeId}{x hi mx:AV}{u hv mv:Value}(hx:Rel c x u)(hh:Rel c hi hv)(hm:Rel c mx mv)(iu:(xai P T x hi mx).side):∃r,(Instr.sliceAt T u none (some hv) (some mv)).run P w=.ok r w/\Rel c (xai P T x hi mx).val r:=by
 unfold xai at iu|-;split at iu
 .rename_i ik k ih n;obtain rfl:=hm.val_inv;obtain rfl:=hh.val_inv;split at iu
  .rename_i e sz rows hk;obtain⟨i',d,z,h1,h2,h3,h4,h5,_⟩:=li hk ac;obtain⟨rfl,ie,ln,rfl⟩:=vh h4;obtain⟨h0,mz,rfl⟩:=iu;have hd:=hx.slice_inv;have jk:∀cap:Nat,rows.length<=cap->(Instr.sliceBounds true rows.length cap none (some (.int ih k)) (some (.int ik k))).run P w=.ok (0,k.toNat,k.toNat) w:=λcap hc=>by
    have q1:k<=(cap:Int):=aa;have q2:k<=(k.toNat:Int):=aa;simp[Instr.sliceBounds,qc5 h0 q1,qc5 h0 q2]
   cases hd with
   |nil =>
    have hk0:k=0:=af;subst hk0;refine⟨.slice none 0 0,?_,.cap _ none 0 (by simpa using .nil)⟩;have:=jk 0 (cn _);simp only[ed]at this;simp[Instr.sliceAt,Instr.slice,ox h2,this,xl ln]
   |empty a =>
    have hk0:k=0:=af;subst hk0;refine⟨.slice (some a) 0 0,?_,.cap _ (some a) 0 (by simpa using .empty a)⟩;have:=jk 0 (cn _);simp only[ed]at this;simp[Instr.sliceAt,Instr.slice,ox h2,this,xl ln]
   |slice rows b off cap sz g ut hB sg hD hr =>
    have hl:(rows.take k.toNat).length=k.toNat:=af;have px:∀(i:Nat) (r:List AV),(rows.take k.toNat)[i]?=some r->rows[i]?=some r:=λi r hi=>by grind
    refine⟨.slice (some ⟨b,off,none⟩) k.toNat k.toNat,?_,.cap _ _ _ ?_⟩
    .have:=jk cap sg;simp[Instr.sliceAt,Instr.slice,ox h2,this,xl ln,vg]
    .have:=DRel.slice (D:=c.D) (rows.take k.toNat) b off k.toNat sz g (λr jf=>ut r (qi7 jf)) aa aa (λi j r x jf nw=>hD i j r x (px i r jf) nw) (λi j r x jf nw=>hr i j r x (px i r jf) nw)
     rwa [hl]at this
  .exact iu.elim
 .exact iu.elim
theorem jee{T:TypeId}{x:AV}{lo hi mx:Option AV}{u:Value}{lo' ke mx':Option Value}(hx:Rel c x u)
  (hlo:∀a,lo=some a->∃v,lo'=some v/\Rel c a v) (hlo0:lo=none->lo'=none) (hhi:∀a,hi=some a->∃v,ke=some v/\Rel c a v) (hhi0:hi=none->ke=none) (hmx1:∀a,mx=some a->∃v,mx'=some v/\Rel c a v) (hmx:mx=none->mx'=none)
  (iu:(xbs P T x lo hi mx).side):∃r,(Instr.sliceAt T u lo' ke mx').run P w=.ok r w/\Rel c (xbs P T x lo hi mx).val r:=by
 unfold xbs at iu|-;split at iu
 .split at iu
  .obtain rfl:=hlo0 rfl;obtain⟨hv,rfl,hh⟩:=hhi _ rfl;obtain⟨mv,rfl,hm⟩:=hmx1 _ rfl;exact jjt hx hh hm iu
  .exact iu.elim
 .obtain rfl:=hmx rfl;split at iu
  .rename_i e sz rows hk;obtain⟨i',d,z,h1,h2,h3,h4,h5,_⟩:=li hk ac;obtain⟨rfl,ie,ln,rfl⟩:=vh h4;split at iu
   .rename_i l hh hl za;obtain⟨ha,hb,hc,iz⟩:=iu;have e1:=xdb hl hlo hlo0;have e2:=xdb za hhi hhi0;have hd:=hx.slice_inv;cases hd with
    |nil =>
     have w9:l=0:=af;have hh0:hh=0:=af;subst w9;subst hh0;refine⟨.slice none 0 0,?_,by simpa using .data .nil⟩;have:=qeg (P:=P) (w:=w) (isS:=true) (len:=0) (cap:=0) e1 e2 aa aa aa (cn _);simp[Instr.sliceAt,Instr.slice,ox h2,this,xl ln]
    |empty a =>
     have w9:l=0:=af;have hh0:hh=0:=af;subst w9;subst hh0;refine⟨.slice (some a) 0 0,?_,by simpa using .data (.empty a)⟩;have:=qeg (P:=P) (w:=w) (isS:=true) (len:=0) (cap:=0) e1 e2 aa aa aa (cn _);simp[Instr.sliceAt,Instr.slice,ox h2,this,xl ln]
    |slice rows b off cap sz g ut hB sg hD hr =>
     have jk:=qeg (P:=P) (w:=w) (isS:=true) (len:=rows.length) (cap:=cap) e1 e2 ha hb hc sg;have jm:((rows.take hh.toNat).drop l.toNat).length=hh.toNat - l.toNat:=az;have px:∀(i:Nat) (r:List AV),((rows.take hh.toNat).drop l.toNat)[i]?=some r->rows[l.toNat+i]?=some r:=λi r hi=>by grind
     have hres:∀ad:Option Addr,(ad=some ⟨b,off,none⟩/\cap=l.toNat)\/ad=some ⟨b,off+l.toNat * ie.size,none⟩->(0<((rows.take hh.toNat).drop l.toNat).length->sz=ie.size) ->
       Rel c (.slice ((rows.take hh.toNat).drop l.toNat)) (.slice ad (hh.toNat - l.toNat) (cap - l.toNat)):=by
      intro ad had hsz0;rw[<-jm];have base:∀o,(0<((rows.take hh.toNat).drop l.toNat).length->o=off+l.toNat * sz)->Rel c (.slice ((rows.take hh.toNat).drop l.toNat)) (.slice (some ⟨b,o,none⟩) ((rows.take hh.toNat).drop l.toNat).length (cap - l.toNat)):=by
       intro o ho;refine .data (.slice _ b o _ sz (λi j=>g (l.toNat+i) j) (λr jf=>ut r (qi7 (qjf jf))) aa aa (λi j r x jf nw=>?_) λi j r x jf nw=>hr _ j r x (px i r jf) nw);have hpos:0<((rows.take hh.toNat).drop l.toNat).length:=Nat.lt_of_le_of_lt (dq _) (cm.1 jf).1;have:=hD _ j r x (px i r jf) nw;rw[ho hpos];rw[ee]at this;rw[show off+l.toNat * sz+i * sz+j=off+(l.toNat * sz+i * sz)+j from by omega];exact this
      rcases had with⟨rfl,quc⟩|rfl
      .grind
      .grind
     have hszr:0<((rows.take hh.toNat).drop l.toNat).length->sz=ie.size:=λhpos=>by
      rw[jm]at hpos;have il:l.toNat<rows.length:=aa;rw[<-ut rows[l.toNat] ac,iz rows[l.toNat] ac]
     refine⟨.slice (if cap=l.toNat then some ⟨b,off,none⟩else some ⟨b,off+l.toNat * ie.size,none⟩) (hh.toNat - l.toNat) (cap - l.toNat),?_,?_⟩
     .simp[Instr.sliceAt,Instr.slice,ox h2,jk,xl ln,vg]
     .grind
   .exact iu.elim
  .rename_i s hk;obtain⟨i',d,z,h1,h2,h3,h4,h5,_⟩:=li hk ac;obtain rfl:=qza h4;obtain rfl:=hx.val_inv;split at iu
   .rename_i l hh hl za;obtain⟨ha,hb,hc⟩:=iu;have jk:=qeg (P:=P) (w:=w) (isS:=false) (len:=s.size) (cap:=s.size) (xdb hl hlo hlo0) (xdb za hhi hhi0) ha hb hc (cn _);exact⟨_,by simp[Instr.sliceAt,Instr.slice,ox h2,jk],.val _ (by
     have hso:=qrj hx;simp only[qkt,decide_eq_true_eq]at hso|-;rw[ByteArray.size_extract];omega)⟩
   .exact iu.elim
  .exact iu.elim
theorem xuy{x y:AV}{u v:Value}(hx:Rel c x u)(hy:Rel c y v)(iu:(qzc x y).side)(ts:Array TypeId)(ty:TypeId):∃r,(Builtin.min_ ts ty #[u,v]).run P w=.ok r w/\Rel c (qzc x y).val r:=by
 unfold qzc at iu|-;split at iu
 .rename_i k a k' b;simp only at iu;subst iu;obtain rfl:=hx.val_inv;obtain rfl:=hy.val_inv;exact⟨_,by simp[Builtin.min_,Builtin.min2],.val _⟩
 .exact iu.elim
theorem jir{x y z:AV}{u v t:Value}(hx:Rel c x u)(hy:Rel c y v)(hz:Rel c z t)(iu:(xac x y z).side)(ts:Array TypeId)(ty:TypeId):∃r,(Builtin.min_ ts ty #[u,v,t]).run P w=.ok r w/\Rel c (xac x y z).val r:=by
 unfold xac at iu|-;split at iu
 .rename_i k a k' b k2 d;simp only at iu;obtain⟨rfl,rfl⟩:=iu;obtain rfl:=hx.val_inv;obtain rfl:=hy.val_inv;obtain rfl:=hz.val_inv;exact⟨_,by simp[Builtin.min_,Builtin.min2],.val _⟩
 .exact iu.elim
theorem ja0{x y:AV}{u v:Value}(hx:Rel c x u)(hy:Rel c y v)(iu:(qz8 x y).side)(ts:Array TypeId)(ty:TypeId):∃r,(Builtin.max_ ts ty #[u,v]).run P w=.ok r w/\Rel c (qz8 x y).val r:=by
 unfold qz8 at iu|-;split at iu
 .rename_i k a k' b;simp only at iu;subst iu;obtain rfl:=hx.val_inv;obtain rfl:=hy.val_inv;exact⟨_,by simp[Builtin.max_,Builtin.max2],.val _⟩
 .exact iu.elim
theorem jhe{h:g9}(hs:HSim c h w){src dst:TypeId}{x:AV}{u:Value}(hx:Rel c x u)(iu:(xa9 P src dst x).side):∃r,(convert src dst u).run P w=.ok r w/\Rel c (xa9 P src dst x).val r:=by
 unfold xa9 at iu|-;split at iu
 .rename_i k k' n hk;obtain⟨i',d,z,h1,h2,h3,h4,h5,_⟩:=li hk ac;obtain rfl:=xpq h4;obtain⟨i'',d',z',g1,g2,_⟩:=li (P:=P) (t:=src) rfl iu;obtain rfl:=hx.val_inv;refine⟨.int k (k.wrap n),?_,.val _⟩;simp only[convert,c8,ox h2,ox g2,c9];cases d'<;>simp[Conv.intToInt]
 .rename_i s hk;obtain⟨i',d,z,h1,h2,h3,h4,h5,_⟩:=li hk ac;obtain rfl:=qza h4;obtain⟨i'',d',z',g1,g2,_⟩:=li (P:=P) (t:=src) rfl iu;obtain rfl:=hx.val_inv;refine⟨.string s,?_,.val _ (qrj hx)⟩;simp only[convert,c8,ox h2,ox g2,c9];cases d'<;>simp
 .rename_i n hk;obtain⟨i',d,z,h1,h2,h3,h4,h5,_⟩:=li hk ac;obtain rfl:=qza h4;simp only[xmo]at iu;split at iu
  .rename_i e sz hks;obtain⟨rfl,oq⟩:=iu;obtain⟨_,ds,_,_,g2,_,g4,_⟩:=li hks ac;obtain⟨rfl,_⟩:=vh g4;obtain⟨_,de,_,_,f2,_,f4,_⟩:=li oq ac;obtain rfl:=xpq f4;have hd:=hx.slice_inv;cases hd with
   |slice _ b off cap sz g jx hB hc hD hr =>
    have hc0:w.cell? ⟨b,off,none⟩=some (g 0 0):=hs.data _ _ _ (by simpa using hD 0 0 _ _ rfl rfl);have hv:g 0 0=.int .u8 n:=by
     have h0:DRel c.D (.val (.int .u8 n)) (g 0 0):=hr 0 0 _ _ rfl rfl;generalize g 0 0=y at h0;cases h0;rfl
    rw[hv]at hc0;have jk:=run_loadCells_list (P:=P) w ⟨b,off,none⟩ [.int .u8 n] (λj v hj=>by
     cases j with
     |zero=>simp at hj;subst hj;simpa[vg]using hc0
     |succ j=>simp at hj)
    refine⟨.string ⟨#[UInt8.ofNat n.toNat]⟩,?_,.val _ (by simp[qkt,ByteArray.size])⟩;simp only[fx]at jk;simp only[convert,c8,ox h2,ox g2,ox f2,c9,Conv.bytesToString,fx,jk];simp[ByteArray.push,ByteArray.empty,ByteArray.emptyWithCapacity];rfl
  .grind
 .exact iu.elim
theorem xdn{d:TypeDesc}(h1:qd P d≠.iface):∀ms,d≠.interface ms:=λms h=>h1 (by rw[h];rfl)
theorem jan{src dst:TypeId}{ok:Bool}{x:AV}{u:Value}(hx:Rel c x u)(iu:(xbu P dst ok x).side):∃r,(Instr.typeAssert u src dst ok).run P w=.ok r w/\Rel c (xbu P dst ok x).val r:=by
 have tup:∀(y:AV) (v:Value) (b:Bool),Rel c y v->Rel c (.tuple [y,.val (.bool b)]) (.tuple #[v,.bool b]):=λy v b hy=>by
  refine .tuple _ _ rfl λj z z' h1 h2=>?_
  match j with
  | 0=>simp at h1 h2;subst h1;subst h2;exact hy
  | 1=>simp at h1 h2;subst h1;subst h2;exact .val _
  |j+2=>simp at h1
 unfold xbu at iu|-;split at iu
 .rename_i t v;obtain⟨v',rfl,hv⟩:∃v',u=.iface t v'/\Rel c v v':=by
   cases hx with
   |data h=>cases h
   |iface _ _ v' h=>exact⟨v',rfl,h⟩
  cases ht:t == dst with
  |true =>
   simp only[ht]at iu|-;obtain⟨i,d,z,h1,h2,h3,h4,_⟩:=li (P:=P) (t:=dst) rfl iu.2;have hd:=xdn (P:=P) (d:=d) af;have he:t=dst:=af;refine⟨.tuple #[v',.bool true],?_,tup _ _ _ hv⟩;cases d<;>first|(exact(hd _ rfl).elim)|simp[Instr.typeAssert,ox h2,he]
  |false =>
   simp only[ht]at iu|-;split at iu
   .rename_i z hz;simp only[hz];obtain⟨i,d,z',h1,h2,h3,h4,_⟩:=li (P:=P) (t:=dst) rfl iu.2;have hd:=xdn (P:=P) (d:=d) af;have he:¬t=dst:=af;obtain⟨zv,yt,hzr⟩:=xg6 (P:=P) (w:=w) (c:=c) hz;refine⟨.tuple #[zv,.bool false],?_,tup _ _ _ hzr⟩;cases d<;>first|(exact(hd _ rfl).elim)|simp[Instr.typeAssert,ox h2,he,yt]
   .exact iu.elim
 .rename_i t v;obtain⟨v',rfl,hv⟩:∃v',u=.iface t v'/\Rel c v v':=by
   cases hx with
   |data h=>cases h
   |iface _ _ v' h=>exact⟨v',rfl,h⟩
  obtain⟨he,hk1,pj⟩:=iu;obtain⟨i,d,z',h1,h2,h3,h4,_⟩:=li (P:=P) (t:=dst) rfl pj;have hd:=xdn (P:=P) (d:=d) af;refine⟨v',?_,hv⟩;cases d<;>first|(exact(hd _ rfl).elim)|simp[Instr.typeAssert,ox h2,he]
 .obtain rfl:=hx.val_inv;split at iu
  .rename_i z hz;simp only[hz];obtain⟨i,d,z',h1,h2,h3,h4,_⟩:=li (P:=P) (t:=dst) rfl iu.2;have hd:=xdn (P:=P) (d:=d) af;obtain⟨zv,yt,hzr⟩:=xg6 (P:=P) (w:=w) (c:=c) hz;refine⟨.tuple #[zv,.bool false],?_,tup _ _ _ hzr⟩;cases d<;>first|(exact(hd _ rfl).elim)|simp[Instr.typeAssert,ox h2,yt]
  .exact iu.elim
 .exact iu.elim
theorem je9{vs:List AV}{n:Nat}{u:Value}(hx:Rel c (.tuple vs) u)(iu:n<vs.length):∃r,(Instr.extract u n).run P w=.ok r w/\Rel c (vs.getD n .top) r:=by
 cases hx with
 |data h=>cases h
 |tuple xs us hl hr =>
  have il:n<us.size:=aa;refine⟨us[n],by simp[Instr.extract,il],hr n _ _ af bc⟩
end
end Go.Abs

namespace Go.Abs
def qp0(c:Ctx)(xs:List AV)(vs:Array Value):Prop :=
 vs.size=xs.length/\∀(j:Nat) (x:AV) (v:Value),xs[j]?=some x->vs[j]?=some v->Rel c x v/\v.oneCell'=true
theorem xcq(off:Nat):∀(l:List Value) (s:Nat) (cs:Array Value),((l.zipIdx s).foldl (λ(cs:Array Value) (p:Value×Nat)=>cs.setIfInBounds (off+p.2) p.1) cs).size=cs.size /\
  (off+s+l.length<=cs.size->∀k,((l.zipIdx s).foldl (λ(cs:Array Value) (p:Value×Nat)=>cs.setIfInBounds (off+p.2) p.1) cs)[k]?=if off+s<=k/\k<off+s+l.length then l[k - (off+s)]? else cs[k]?)
 | [],s,cs=>⟨rfl,λ_ k=>by simp;intro h1 h2;omega⟩
 |v::l,s,cs=>by
  obtain⟨h1,h2⟩:=xcq off l (s+1) (cs.setIfInBounds (off+s) v);refine⟨bw,λij k=>?_⟩;simp only[dy]at ij;have:=h2 az k;simp only[List.zipIdx_cons,fj];rw[this];by_cases hk:k=off+s
  .grind
  .grind
theorem xzv{c:Ctx}{xs:List AV}{cs:Array Value}(hc:qp0 c xs cs){x:AV}{v:Value}(hr:Rel c x v)(ho:x.cellsOk=true){off:Nat}(ij:off+x.cells.length<=xs.length) :
  qp0 c (xs.take off++x.cells++xs.drop (off+x.cells.length)) (v.cells.zipIdx.foldl (λ(cs:Array Value) (p:Value×Nat)=>cs.setIfInBounds (off+p.2) p.1) cs):=by
 obtain⟨jx,mb⟩:=hr.cells ho;rw[<-qj7,Array.toList_zipIdx];obtain⟨h1,h2⟩:=xcq off v.cells.toList 0 cs;have h2:=h2 (by simp;rw[jx,hc.1];exact ij);refine⟨by rw[h1,hc.1];simp;omega,λj y u hy hu=>?_⟩;rw[h2 j]at hu;simp only[ea,qjy,jx]at hu;split at hu
 .grind
 .rename_i hj;by_cases il:j<off
  .rw[dn,co az,dt,if_pos il]at hy;exact hc.2 j y u hy hu
  .rw[cx az,ew]at hy;simp only[c7,ey]at hy;rw[show off+x.cells.length+(j - (min off xs.length+x.cells.length))=j from by omega]at hy;exact hc.2 j y u hy hu
theorem xl3{c:Ctx}{fs:List (Nat×Nat)}{place:Nat->Option (Nat×Nat)}(hp:∀i,i<fs.length->place i=fs[i]?):∀(ps:List (Nat×AV)) (qs:List (Nat×Value)) (xs ys:List AV) (cs:Array Value),
  ps.length=qs.length->(∀(k:Nat) (p:Nat×AV) (q:Nat×Value),ps[k]?=some p->qs[k]?=some q->p.1=q.1/\Rel c p.2 q.2)->qp0 c xs cs->qw8 fs ps xs=some ys ->
  ∃tf,Instr.fill place cs qs=some tf/\qp0 c ys tf
 | [],[],xs,ys,cs,_,_,hc,h=>by simp only[qw8,eb]at h;subst h;exact⟨cs,rfl,hc⟩
 | [],_::_,_,_,_,hl,_,_,_=>by simp at hl
 |_::_,[],_,_,_,hl,_,_,_=>by simp at hl
 |(i,x)::ps,(i',v)::qs,xs,ys,cs,hl,hpq,hc,h=>by
  obtain⟨he,hr⟩:=hpq 0 (i,x) (i',v) rfl rfl;simp only at he hr;subst he;simp only[qw8]at h;split at h
  .rename_i o n hf;split at h
   .rename_i qqc;obtain⟨ho,rfl,ij⟩:=qqc;have jx:=(hr.cells ho).1;obtain⟨tf,h1,h2⟩:=xl3 hp ps qs _ ys _ af (λk p q hp hq=>hpq (k+1) p q af af) (xzv hc hr ho ij) h;refine⟨tf,?_,h2⟩;simp only[Instr.fill,hp i (cm.1 hf).1,hf];have kf:(decide (v.cells.size≠x.cells.length)||decide (o+v.cells.size > cs.size))=false:=by
     rw[jx,hc.1];simp;omega
    rw[if_neg af];exact h1
   .cases h
  .cases h
theorem jim(c:Ctx)(v:Value):Rel c (ul v) v:=by
 exact xb8 c v
theorem xfz(c:Ctx){z:Value}(h:∀v,v∈z.cells.toList->v.oneCell'=true):qp0 c (z.cells.toList.map ul) z.cells :=
 ⟨ac,λj x v hx hv=>by
  simp only[di,db]at hx;obtain⟨u,hu,rfl⟩:=hx;have:u=v:=af;subst this;exact⟨jim c u,h u (cv hu)⟩⟩
theorem xrm{P:Program}{α β:Type}{f:α->Sem β}{g:α->β}{w:World}:∀(l:List α),(∀x,x∈l->(f x).run P w=.ok (g x) w)->(l.mapM f).run P w=.ok (l.map g) w
 | [],_=>by simp
 |x::l,h=>by
  simp only[List.mapM_cons,c8,h x ac,c9,xrm l (λy hy=>h y ck),dm,dj]
theorem xmb{P:Program}{α β:Type}{f:α->Sem β}{g:α->β}{w:World}(l:Array α)(h:∀x,x∈l.toList->(f x).run P w=.ok (g x) w):(l.mapM f).run P w=.ok (l.map g) w:=by
 rw[Array.mapM_eq_mapM_toList];simp only[Sem.run_map,xrm l.toList h,c9];congr 1;apply gj;simp
section
variable {P:Program} {c:Ctx} {h:g9} {w:World}
theorem ja4{t:TypeId}{ps:List (Nat×AV)}{qs:Array (Nat×Value)}{ys:List AV}(hl:ps.length=qs.size)
  (hpq:∀(k:Nat) (p:Nat×AV) (q:Nat×Value),ps[k]?=some p->qs[k]?=some q->p.1=q.1/\Rel c p.2 q.2) (hag:(im P t).agg=true) (hf:qw8 (qqn P t) ps (jh P t)=some ys) :
  ∃r,(Instr.build t qs).run P w=.ok r w/\Rel c (.agg ys) r:=by
 have it:im P t≠.other:=λe=>by simp[e,TK.agg]at hag
 obtain⟨i,d,z,h1,h2,h3,h4,h5,h6,h7,h8⟩:=li (P:=P) (t:=t) rfl it;rw[h6]at hf;have hz:=xfz c h8;have yt:(zeroValue t).run P w=.ok z w:=qfn;have fin:∀(place:Nat->Option (Nat×Nat)),(∀i,i<(qqn P t).length->place i=(qqn P t)[i]?)->∃tf,Instr.fill place z.cells qs.toList=some tf/\qp0 c ys tf:=λplace hp =>
  xl3 hp ps qs.toList _ ys z.cells aa (λk p q hp hq=>hpq k p q hp af) hz hf
 have done:∀tf,qp0 c ys tf->Rel c (.agg ys) (.agg tf):=λtf md=>.agg ys tf md.1 (λj v hv=>by
   have il:j<ys.length:=by rw[<-md.1];exact(fv.1 hv).1
   exact(md.2 j ys[j] v bc hv).2) λj x v hx hv=>(md.2 j x v hx hv).1
 cases hk:im P t with
 |struct fs =>
  rw[hk]at h4;obtain⟨l,rfl,iz,rfl⟩:=xrl h4;have rh:qqn P t=l.toList.map λf=>(f.offset,P.cellsOf f.type):=by simp[qqn,hk]
  obtain⟨tf,qv9,md⟩:=fin (λi=>(l.map λf=>(f.offset,P.cellsOf f.type))[i]?) (λi _=>by rw[rh];simp);refine⟨.agg tf,?_,done tf md⟩;have hm:(l.mapM λf=>(do pure (f.offset,<-sizeOf f.type):Sem (Nat×Nat))).run P w=.ok (l.map λf=>(f.offset,P.cellsOf f.type)) w:=xmb l λf hf'=>by
   obtain⟨i',ke⟩:=iz f hf';simp[xl ke,Program.cellsOf,ke]
  simp only[Instr.build,c8,yt,ox h2,c9,hm,qv9,dm]
 |array n e sz =>
  rw[hk]at h4;obtain⟨rfl,ie,ln,rfl⟩:=qx9 h4;have rh:qqn P t=(List.range n).map λi=>(i * ie.size,ie.size):=by simp[qqn,hk]
  obtain⟨tf,qv9,md⟩:=fin (λi=>some (i * ie.size,ie.size)) (λi hi=>by rw[rh]at hi|-;simp at hi;simp[hi]);refine⟨.agg tf,?_,done tf md⟩;simp only[Instr.build,c8,yt,ox h2,c9,xl ln,qv9,dm]
 |_=>simp[hk,TK.agg]at hag
theorem jiw{f:Fn}{first caps:List AV}{us vs:Array Value}(h1:us.size=first.length)(h2:vs.size=caps.length)
  (mz:∀(j:Nat) (x:AV) (v:Value),first[j]?=some x->us[j]?=some v->Rel c x v) (zq:∀(j:Nat) (x:AV) (v:Value),caps[j]?=some x->vs[j]?=some v->Rel c x v):Rel c (.fn f first caps) (.func f us vs) :=
 .fn f first caps us vs h1 h2 mz zq
theorem xja{g:Operand->AV}{ev:Operand->Value}{l:Array Operand}(hg:∀x,x∈l.toList->Rel c (g x) (ev x)) :
  (l.map ev).size=(l.toList.map g).length/\∀(j:Nat) (x:AV) (v:Value),(l.toList.map g)[j]?=some x->(l.map ev)[j]?=some v->Rel c x v :=
 ⟨ac,λj x v hx hv=>by
  simp only[di,db]at hx;obtain⟨o,ho,rfl⟩:=hx;simp only[fy,db]at hv;obtain⟨o',kc,rfl⟩:=hv;have:o=o':=af;subst this;exact hg o (cv ho)⟩
end
end Go.Abs

namespace Go.Abs
theorem xhv{c:Ctx}{g:Operand->AV}{ev:Operand->Value}{x:Option Operand}(hg:∀y,x=some y->Rel c (g y) (ev y)) :
  (∀a,x.map g=some a->∃v,x.map ev=some v/\Rel c a v)/\(x.map g=none->x.map ev=none):=by
 cases x with
 |none=>simp
 |some y=>simp;exact hg y rfl
theorem xct{P:Program}{c:Ctx}{h:g9}{w:World}{o:Oper}{g:Operand->AV}{ev:Operand->Value}(hs:HSim c h w)
  (hg:∀x,x∈o.op.operands.toList->Rel c (g x) (ev x)) (iu:(qg P g h o.op).side) :
  ∃v,(execOp ev o).run P w=.ok (.value v) w/\Rel c (qg P g h o.op).val v:=by
 obtain⟨dst,op,type,pos,after,guard⟩:=o;simp only at hg iu|-;cases op with
 |move x=>exact⟨_,rfl,hg x bb⟩
 |assign x=>exact⟨_,rfl,hg x bb⟩
 |build t parts =>
  simp only[qg]at iu|-;split at iu
  .rename_i ys hf;obtain⟨r,hr,jr⟩:=ja4 (P:=P) (c:=c) (w:=w) (t:=t) (ps:=parts.toList.map λp=>(p.1,g p.2)) (qs:=parts.map λp=>(p.1,ev p.2)) (ys:=ys) ac (λk p q hp hq=>by
    simp only[di,db]at hp;obtain⟨a,ha,rfl⟩:=hp;simp only[fy,db]at hq;obtain⟨b,hb,rfl⟩:=hq;have:a=b:=af;subst this;exact⟨rfl,hg a.2 (by simp only[Op.operands,List.toList_toArray,cy];exact⟨a,cv ha,rfl⟩)⟩) iu hf
   exact⟨r,qfu,jr⟩
  .exact iu.elim
 |load t a =>
  obtain⟨v,hv,hr⟩:=xsr (P:=P) (t:=t) hs (hg a bb) iu;exact⟨v,by simp[execOp,hv],hr⟩
 |nilCheck x =>
  have hr:=hg x bb;simp only[qg]at iu|-;split at iu
  .rename_i i o hx;rw[hx]at hr;obtain⟨b,hb,h1⟩:=qul hr;exact⟨_,by simp[execOp,hb],.ptr i o b h1⟩
  .rename_i cells hx;rw[hx]at hr;obtain⟨b,o,hb,h1⟩:=xd6 hr;exact⟨_,by simp[execOp,hb],xc3 h1⟩
  .rename_i i n sz r q hx;rw[hx]at hr;obtain⟨b,o,len,cap,hb,h1⟩:=qw4 hr;exact⟨_,by simp[execOp,hb],.optr _ _ _ _ _ b o len cap h1⟩
  .rename_i f a cs hx;rw[hx]at hr;generalize hev:ev x=u at hr;cases hr with
   |data h=>cases h
   |fn f ys xs us vs po hl h' h=>exact⟨.func (.func f) us vs,by simp[execOp,hev],.fn _ _ _ us vs po hl h' h⟩
  .exact iu.elim
 |binOp op T x y T' =>
  obtain⟨r,hr,jr⟩:=jgq (P:=P) (w:=w) (xo:=x) (yo:=y) (hg x bb) (hg y bb) iu;refine⟨r,?_,jr⟩;simp only[execOp,c8];simp only[c8]at hr;rw[hr];rfl
 |unOp op T x =>
  have hr:=hg x bb;cases op with
  |not =>
   simp only[qg]at iu|-;split at iu
   .rename_i b hx;rw[hx]at hr;exact⟨_,by simp[execOp,hr.val_inv,Op.unary],.val _⟩
   .exact iu.elim
  |neg =>
   simp only[qg]at iu|-;split at iu
   .rename_i k n hx;rw[hx]at hr;exact⟨_,by simp[execOp,hr.val_inv,Op.unary,Op.intArith],.val _⟩
   .exact iu.elim
  |_=>exact iu.elim
 |convert src dst x =>
  obtain⟨r,hr,jr⟩:=jhe (P:=P) (w:=w) hs (hg x bb) iu;exact⟨r,qfu,jr⟩
 |makeInterface T x =>
  obtain⟨h1,h2⟩:=iu;obtain⟨i,d,z,g1,g2,g3,g4,_⟩:=li (P:=P) (t:=T) rfl h2;refine⟨.iface T (ev x),?_,.iface T _ _ (hg x bb)⟩;simp only[execOp,Instr.makeInterface,c8,ox g2,c9];cases d<;>simp;rename_i ms;exact h1 (by rw[<-g4];rfl)
 |makeFunc f first caps =>
  have h1:=xja (c:=c) (g:=g) (ev:=ev) (l:=first) (λx hx=>hg x (by simp[Op.operands]at hx|-;exact .inl hx));have h2:=xja (c:=c) (g:=g) (ev:=ev) (l:=caps) (λx hx=>hg x (by simp[Op.operands]at hx|-;exact .inr hx));exact⟨_,by simp[execOp,Instr.makeFunc],jiw h1.1 h2.1 h1.2 h2.2⟩
 |fieldAddr s x f =>
  have hr:=hg x bb;simp only[qg]at iu|-;split at iu
  .rename_i o n i off hf hx;rw[hx]at hr;obtain⟨b,hb,h1⟩:=qul hr;exact⟨_,qg9,.ptr _ _ b h1⟩
  .rename_i o n cells hf hx;rw[hx]at hr;obtain⟨b,off,hb,h1⟩:=xd6 hr;refine⟨.pointer (some ⟨b,off+o,none⟩),qg9,xc3 λj x hx=>?_⟩;rw[ew]at hx;obtain⟨u,hu,hd⟩:=h1 _ x hx;exact⟨u,by rw[Nat.add_assoc];exact hu,hd⟩
  .rename_i o n i m sz r q hf hx;rw[hx]at hr;obtain⟨b,o',len,cap,hb,h1⟩:=qw4 hr;refine⟨.pointer (some ⟨b,o'+(r * sz+q)+o,none⟩),qg9,?_⟩;have:=Rel.optr (c:=c) i m sz r (q+o) b o' len cap h1;rw[show o'+(r * sz+q)+o=o'+(r * sz+(q+o))by omega];exact this
  .exact iu.elim
 |field s x f =>
  have hr:=hg x bb;simp only[qg]at iu|-;split at iu
  .rename_i o t cs hf hx;obtain⟨ki,ho,hag⟩:=iu;rw[hx]at hr;unfold xug at hf;split at hf
   .rename_i fs hu;obtain⟨fd,hfd,he⟩:=db.1 hf;cases he;obtain⟨i2,d2,z2,g1,g2,g3,g4,g5,_⟩:=li rfl ho;have ha:=xkw g2 af w;rw[g4,hag]at ha;obtain⟨v,hv⟩:∃v,ev x=v:=⟨_,rfl⟩
    rw[hv]at hr;cases hr with
    |data hd=>cases hd
    |agg _ vs hl nj jf =>
     have hlv:fd.offset<vs.size:=aa;refine⟨vs[fd.offset],?_,jf fd.offset _ _ af (by simp[hlv])⟩;simp[execOp,hv,Instr.field,ox hu,hfd,part,ha,hlv,asAgg]
   .cases hf
  .exact iu.elim
 |indexAddr T x i =>
  obtain⟨r,hr,jr⟩:=xxi (P:=P) (w:=w) hs (qdw hs (hg x bb)) (hg i bb) iu;exact⟨r,qfu,jr⟩
 |index T x i =>
  obtain⟨r,hr,jr⟩:=jj8 (P:=P) (w:=w) (hg x bb) (hg i bb) iu;exact⟨r,qfu,jr⟩
 |lookup T x i ok =>
  obtain⟨r,hr,jr⟩:=jj2 (P:=P) (w:=w) hs (hg x bb) (hg i bb) iu;exact⟨r,qfu,jr⟩
 |typeAssert x src dst ok =>
  obtain⟨r,hr,jr⟩:=jan (P:=P) (w:=w) (src:=src) (hg x bb) iu;exact⟨r,qfu,jr⟩
 |extract x n =>
  have hr:=hg x bb;simp only[qg]at iu|-;split at iu
  .rename_i vs hx;rw[hx]at hr;obtain⟨r,h1,h2⟩:=je9 (P:=P) (w:=w) hr iu;exact⟨r,by simp[execOp,h1],h2⟩
  .exact iu.elim
 |slice T x lo hi mx =>
  have l1:=xhv (c:=c) (g:=g) (ev:=ev) (x:=lo) (λy hy=>hg y qib);have l2:=xhv (c:=c) (g:=g) (ev:=ev) (x:=hi) (λy hy=>hg y qib);have l3:=xhv (c:=c) (g:=g) (ev:=ev) (x:=mx) (λy hy=>hg y qib);obtain⟨r,hr,jr⟩:=jee (P:=P) (w:=w) (qdw hs (hg x bb)) l1.1 l1.2 l2.1 l2.2 l3.1 l3.2 iu;exact⟨r,qfu,jr⟩
 |call cl =>
  obtain⟨callee,args,argTypes⟩:=cl;cases callee with
  |value f=>exact iu.elim
  |invoke r m=>exact iu.elim
  |builtin b =>
   cases b with
   |len =>
    simp only[qg]at iu|-;split at iu
    .rename_i x T hx hT;obtain rfl:args = #[x]:=gj hx;obtain rfl:argTypes = #[T]:=gj hT;obtain⟨r,hr,jr⟩:=jdf (P:=P) (w:=w) hs (qdw hs (hg x qex)) iu type;exact⟨r,qfl,jr⟩
    .exact iu.elim
   |min =>
    simp only[qg]at iu|-;split at iu
    .rename_i x y hx;obtain rfl:args = #[x,y]:=gj hx;obtain⟨r,hr,jr⟩:=xuy (P:=P) (w:=w) (hg x qex) (hg y qex) iu argTypes type;exact⟨r,qfl,jr⟩
    .rename_i x y z hx;obtain rfl:args = #[x,y,z]:=gj hx;obtain⟨r,hr,jr⟩:=jir (P:=P) (w:=w) (hg x qex) (hg y qex) (hg z qex) iu argTypes type;exact⟨r,qfl,jr⟩
    .exact iu.elim
   |max =>
    simp only[qg]at iu|-;split at iu
    .rename_i x y hx;obtain rfl:args = #[x,y]:=gj hx;obtain⟨r,hr,jr⟩:=ja0 (P:=P) (w:=w) (hg x qex) (hg y qex) iu argTypes type;exact⟨r,qfl,jr⟩
    .exact iu.elim
   |_=>exact iu.elim
 |_=>exact iu.elim
end Go.Abs


