/- Part 6 of a proof. -/
import Derived.Test.YtbimdamecieomaaGreatDoorR05
set_option linter.all false
namespace Go.Abs
def AV.strip:AV→AV
 | .opt _ v=>v
 |v=>v
def AV.has(G:Bool):AV→Prop
 | .opt g _=>G=true→g=true
 |_=>True
def Env.getS(e:Env)(x:Operand):AV:=(e.get x).strip
def l6(e:Env)(G:Bool):List Operand→Prop
 | []=>True
 |x::l=>(e.get x).has G∧l6 e G l
theorem xi0{e:Env}{G:Bool}:∀{l:List Operand},l6 e G l→∀x,x∈l→(e.get x).has G
 | [],_,x,hx=>by cases hx
 |y::l,h,x,hx=>by
  cases hx with
  |head=>exact h.1
  |tail _ hx=>exact xi0 h.2 x hx
theorem xcw{c:Ctx}{x:AV}{v:Value}(h:Rel c x v)(hh:x.has true):Rel c x.strip v:=by
 cases x with
 |opt g y =>
  cases h with
  |data h=>cases h
  |opt g x v h hn=>exact h (hh rfl)
 |_=>exact h
def gB(ds:List (Option Tmp))(e:Env):Option (Nat×Bool)→Option Bool
 |none=>some true
 |some (j,want) =>
  match ds[j]? with
  |some (some t)=>match kj e.t t with
   | .val (.bool b)=>some (b == want)
   | .opt g (.val (.bool b))=>some (g&&(b == want))
   | .opt false _=>some false
   |_=>none
  |_=>none
def yw(N:Nat):Option Tmp→Prop
 |none=>True
 |some d=>d<N
def q8(g:Option (Nat×Bool))(G:Bool)(v:AV):AV :=
 match g with
 |none=>v
 |some _=>.opt G v
def qne(x y z:AV):AV :=
 match x.strip with
 | .val (.bool b)=>match y.strip,z.strip with
  | .val (.bool p),.val (.bool q)=>.val (.bool (bif b then p else q))
  |y',z'=>bif b then y' else z'
 |_=>.top
def qzv(G:Bool)(x y z:AV):Prop :=
 G=true→match x.strip with
  | .val (.bool b)=>x.has true∧(b=true→y.has true)∧(b=false→z.has true)
  |_=>False
def AV.isIface:AV→Bool
 | .iface _ _=>true
 |_=>false
def AV.isInt:AV→Bool
 | .val (.int _ _)=>true
 |_=>false
def AV.isData:AV→Bool
 | .val v=>v.oneCell'
 | .slice _=>true
 |_=>false
def qrd(h:gz)(sz:Nat):Nat→List (Nat×AV)→Option (List (List AV))
 |_,[]=>some []
 |k,(i,x)::l =>
  if i=k∧x.cellsOk=true∧x.cells.length=sz∧(kc h x.cells).all AV.isData=true then(qrd h sz (k+1) l).map ((kc h x.cells)::·)else none
def qzq(sz:Nat):Nat→List (Nat×AV)→Option (List AV)
 | 1,[(0,x)]=>if x.cellsOk=true∧x.cells.length=sz then some x.cells else none
 |_,_=>none
def qz4(h:gz):AV→Option (List (List AV))
 | .slice rows=>some rows
 | .nils=>some []
 | .own i n=>match h[i]? with
  |some (.arr _ _ rows)=>if rows.length=n then some rows else none
  |_=>none
 |_=>none
def jn(P:Program)(t:TypeId):Nat:=match ti P t with|some x=>x.bytes|none=>0
def qtq(P:Program)(T:TypeId)(s x:AV)(h:gz)(K:AV→gz→Prop):Prop :=
 match ij P T,qz4 h x with
 | .slice e sz,some news =>
  RowsLen sz news∧0<sz∧jn P e≤2048∧iy P e=sz∧ij P e≠.other ∧
  match s with
  | .nils=>news.length≤68719476736∧K (.own h.length news.length) (h++[.arr e sz news])
  | .own i n=>match h[i]? with
   |some (.arr e' kl rows)=>e'=e∧kl=sz∧rows.length=n∧rows.length+news.length≤68719476736∧K (.own i (n+news.length)) (h.set i (.arr e sz (rows++news)))
   |some (.uarr e' kl rows)=>e'=e∧kl=sz∧rows.length=n∧rows.length+news.length≤68719476736∧K (.own i (n+news.length)) (h.set i (.uarr e sz (rows++news)))
   |_=>False
  |_=>False
 |_,_=>False
def qvx(P:Program)(T:TypeId)(s x:AV)(h:gz)(K:AV→gz→Prop):Prop :=
 match x with
 | .lit cells =>
  match ij P T,s with
  | .slice e sz,.own i n=>match h[i]? with
   |some (.oarr e' kl rows)=>cells.length=sz∧0<sz∧jn P e≤2048∧iy P e=sz∧ij P e≠.other∧e'=e∧kl=sz∧rows.length=n∧rows.length+1≤68719476736∧K (.own i (n+1)) (h.set i (.oarr e sz (rows++[cells])))
   |_=>False
  |_,_=>False
 |x=>qtq P T s x h K
def qpf(P:Program)(e:Env):Op→(AV→gz→Prop)→(AV→gz→Prop)→Prop
 | .box _ x,K,_=>l6 e true [x]∧(e.getS x).cellsOk=true∧K (.ptr e.h.length 0) (e.h++[.cells (e.getS x).cells])
 | .alloc T,K,_=>ij P T≠.other∧K (.ptr e.h.length 0) (e.h++[.cells (jo P T)])
 | .store T a x,K,_ =>
  l6 e true [a,x] ∧
  match e.getS a with
  | .ptr i off=>match e.h[i]? with
   |some (.cells xs)=>(e.getS x).cellsOk=true∧(e.getS x).cells.length=iy P T∧ij P T≠.other∧off+(e.getS x).cells.length≤xs.length ∧
     K .top (e.h.set i (.cells (xs.take off++(e.getS x).cells++xs.drop (off+(e.getS x).cells.length))))
   |_=>False
  | .optr i n sz r q=>match e.h[i]? with
   |some (.uarr t kl rows)=>rows.length=n∧kl=sz∧r<rows.length∧(e.getS x).cellsOk=true∧(kc e.h (e.getS x).cells).all AV.isData=true∧(e.getS x).cells.length=iy P T∧ij P T≠.other∧q+(e.getS x).cells.length≤sz ∧
     K .top (e.h.set i (.uarr t sz (rows.set r ((rows.getD r []).take q++kc e.h (e.getS x).cells++(rows.getD r []).drop (q+(e.getS x).cells.length)))))
   |some (.oarr t kl rows)=>rows.length=n∧kl=sz∧r<rows.length∧(e.getS x).cellsOk=true∧(e.getS x).cells.length=iy P T∧ij P T≠.other∧q+(e.getS x).cells.length≤sz ∧
     K .top (e.h.set i (.oarr t sz (rows.set r ((rows.getD r []).take q++(e.getS x).cells++(rows.getD r []).drop (q+(e.getS x).cells.length)))))
   |_=>False
  |_=>False
 | .buildSlice T n parts,K,_ =>
  match ij P T with
  | .slice el sz=>match qrd e.h sz 0 (parts.toList.map fun p=>(p.1,e.getS p.2))with
   |some rows=>l6 e true (parts.toList.map (·.2))∧rows.length=n∧0<sz∧n * sz≤16777216∧ij P el≠.other∧iy P el=sz∧K (.slice rows) e.h
   |none=>match qzq sz n (parts.toList.map fun p=>(p.1,e.getS p.2))with
    |some cs=>l6 e true (parts.toList.map (·.2))∧0<sz∧sz≤16777216∧ij P el≠.other∧iy P el=sz∧K (.lit cs) e.h
    |none=>False
  |_=>False
 | .call { callee:=.value f,args,.. },K,Kp =>
  l6 e true (f::args.toList) ∧
  match e.getS f with
  | .fn (.func fid) first caps=>ACalls P fid (kc e.h (first++args.toList.map e.getS++caps)) e.h fun r h'=>match r with
   | .ret v=>K v h'
   | .panic v=>Kp v h'
  |_=>False
 | .call { callee:=.builtin .append,args,argTypes },K,_ =>
  match args.toList,argTypes.toList with
  | [s,x],[T,T']=>l6 e true [s,x]∧T'=T∧qvx P T (e.getS s) (e.getS x) e.h K
  |_,_=>False
 | .range T x,K,_ =>
  l6 e true [x] ∧
  match ij P T,e.getS x with
  | .string,.val (.string s)=>K (.ptr e.h.length 0) (e.h++[.iter s 0])
  |_,_=>False
 | .next x true,K,_ =>
  l6 e true [x] ∧
  match e.getS x with
  | .ptr i 0=>match e.h[i]? with
   |some (.iter s p) =>
    if p<s.size then K (.tuple [.val (.bool true),.val (.int .i64 p),.val (.int .i32 (Utf8.decode s p).1)]) (e.h.set i (.iter s (p+(Utf8.decode s p).2)))
    else K (.tuple [.val (.bool false)]) e.h
   |_=>False
  |_=>False
 | .panic x,_,Kp=>l6 e true [x]∧(e.getS x).isIface=true∧Kp (e.getS x) e.h
 | .makeMap T r,K,_ =>
  match ij P T with
  | .map _ _=>(match r with|none=>True|some x=>l6 e true [x]∧(e.getS x).isInt=true)∧K (.mapr e.h.length) (e.h++[.map []])
  |_=>False
 | .mapUpdate T m key x,K,_ =>
  l6 e true [m,key,x] ∧
  match ij P T,e.getS m,e.getS key with
  | .map kt _,.mapr i,.val (.string s)=>match e.h[i]? with
   |some (.map es)=>match strKeys es with
    |some l=>ij P kt=.string∧K .top (e.h.set i (.map (qj (qua l s (e.getS x)))))
    |none=>False
   |_=>False
  |_,_,_=>False
 | .call { callee:=.builtin .delete,args,argTypes },K,_ =>
  match args.toList,argTypes.toList with
  | [m,key],[T,_]=>l6 e true [m,key] ∧
   match ij P T,e.getS m,e.getS key with
   | .map kt _,.mapr i,.val (.string s)=>match e.h[i]? with
    |some (.map es)=>match strKeys es with
     |some l=>ij P kt=.string∧K (.tuple []) (e.h.set i (.map (qj (qwm l s))))
     |none=>False
    |_=>False
   |_,_,_=>False
  |_,_=>False
 |_,_,_=>False
def xcd:Op→Bool
 | .box .. | .alloc _| .panic _| .range .. | .next _ true| .store .. | .buildSlice .. | .makeMap .. | .mapUpdate .. | .call { callee:=.value _,.. } | .call { callee:=.builtin .append,.. } | .call { callee:=.builtin .delete,.. }=>true
 |_=>false
@[reducible] def xrn(P:Program)(fid:FuncId)(G:Bool)(pre:Prop)(args:List AV)(h:gz)(K:AV→Prop)(KE:AEnd→gz→Prop):Prop :=
 (∃r,(G=true→pre∧APure P fid args r)∧K r)∨(G=true∧pre∧ACalls P fid args h KE)
def qux(P:Program)(N:Nat)(Q:AExit→Env→Prop)(ds:List (Option Tmp))(o:Oper)(e:Env)(K:Env→Prop):Prop :=
 match gB ds e o.guard with
 |none=>False
 |some G =>
  yw N o.dst ∧
  match o.op with
  | .pick x y z=>qzv G (e.get x) (e.get y) (e.get z)∧K (e.put o.dst (q8 o.guard G (qne (e.get x) (e.get y) (e.get z))))
  |op =>
   match xcd op,o.guard with
   |false,g=>(G=true→l6 e true op.operands.toList∧(qb P e.getS e.h op).side)∧K (e.put o.dst (q8 g G (qb P e.getS e.h op).val))
   |true,none=>qpf P e op (fun v h'=>K (({ e with h:=h' }:Env).put o.dst v)) (fun v h'=>Q (.panic v) { e with h:=h' })
   |true,some _=>match op with
    | .call { callee:=.value f,args,.. }=>match e.getS f with
     | .fn (.func fid) first caps=>xrn P fid G (l6 e true (f::args.toList)) (kc e.h (first++args.toList.map e.getS++caps)) e.h (fun r=>K (e.put o.dst (.opt G r))) fun r h'=>match r with
        | .ret v=>K (({ e with h:=h' }:Env).put o.dst (.opt true v))
        | .panic v=>Q (.panic v) { e with h:=h' }
     |_=>False
    |_=>False
def qpm(P:Program)(N:Nat)(Q:AExit→Env→Prop):List (Option Tmp)→List Oper→Env→Prop
 |_,[],e=>Q .normal e
 |ds,o::l,e=>qux P N Q ds o e (qpm P N Q (ds++[o.dst]) l)
section
variable {P:Program} {E:Ent}
theorem qx8{ops:Array Oper}{done:List Oper}{rest:List Oper}(te:ops.toList=done++rest){N:Nat}{c:Ctx}{e:Env}{a:Act}{w:World}(s:Sim N c e a w){o:Oper}{G:Bool}
  (h:gB (done.map (·.dst)) e o.guard=some G):Region.wanted o (yielded ops a.tmps)=G:=by
 unfold gB at h;unfold Region.wanted;split at h
 ·rename_i hg;simp only[hg];simpa using h
 ·rename_i j want hg;simp only[hg];split at h
  ·rename_i t ht;have hj:(ops[j]?).bind (·.dst)=some t:=by
    simp only[dq,dn]at ht;obtain⟨o',ky,hd⟩:=ht;have:ops[j]?=some o':=by
     have h1:ops.toList[j]?=some o':=by
      rw[te,cu (cq.1 ky).1];exact ky
     simpa using h1
    simp[this,hd]
   have hr:=s.tmps t;have hy:∀b,a.tmps.getD t undef=.bool b→yielded ops a.tmps j=some b:=fun b hb=>by
    unfold yielded;rw[hj];simp only[f5];simp only[ed]at hb;cases ht':a.tmps[t]? with
    |none=>rw[ht']at hb;simp[undef]at hb
    |some v=>rw[ht']at hb;simp at hb;subst hb;rfl
   split at h
   ·rename_i b hb;rw[hb]at hr;rw[hy b hr.val_inv];simp only[d7]at h;rw[←h];cases b<;>cases want<;>rfl
   ·rename_i g b hb;rw[hb]at hr;simp only[d7]at h;cases g with
    |true =>
     have je:Rel c (.val (.bool b)) (a.tmps.getD t undef):=by
      cases hr with
      |data h=>cases h
      |opt g x v h hn=>exact h rfl
     rw[hy b je.val_inv,←h];cases b<;>cases want<;>rfl
    |false =>
     have hu:a.tmps.getD t undef=undef:=by
      cases hr with
      |data h=>cases h
      |opt g x v h hn=>exact hn rfl
     have:yielded ops a.tmps j=none:=by
      unfold yielded;rw[hj];simp only[f5];simp only[ed]at hu;cases ht':a.tmps[t]? with
      |none=>rfl
      |some v=>rw[ht']at hu;simp at hu;subst hu;rfl
     rw[this,←h];rfl
   ·rename_i x hnb hb;rw[hb]at hr;simp only[d7]at h;have hu:a.tmps.getD t undef=undef:=by
     cases hr with
     |data h=>cases h
     |opt g x v h hn=>exact hn rfl
    have:yielded ops a.tmps j=none:=by
     unfold yielded;rw[hj];simp only[f5];simp only[ed]at hu;cases ht':a.tmps[t]? with
     |none=>rfl
     |some v=>rw[ht']at hu;simp at hu;subst hu;rfl
    rw[this,←h];rfl
   ·cases h
  ·cases h
theorem qcs{ops:Array Oper}{Q:Exit→Act→World→Prop}{o:Oper}{rest:List Oper}{a:Act}{w:World}{G:Bool}(hw:Region.wanted o (yielded ops a.tmps)=G)
  (h1:G=true→o.wp P a w (wpList P ops Q rest) Q) (h2:G=false→wpList P ops Q rest (a.put o.dst undef) w):wpList P ops Q (o::rest) a w:=by
 unfold wpList;cases G with
 |true=>rw[if_pos hw];exact .inl (h1 rfl)
 |false=>rw[if_neg (by simp[hw])];exact h2 rfl
theorem wm{o:Oper}{a:Act}{w w':World}{v:Value}{K:Act→World→Prop}{Q:Exit→Act→World→Prop}(hr:(execOp a.eval o).run P w=.ok (.value v) w')(h:K (a.put o.dst v) w'):o.wp P a w K Q:=by
 unfold Oper.wp;rw[hr];exact h
theorem xbb{o:Oper}{a:Act}{w w':World}{K:Act→World→Prop}{Q:Exit→Act→World→Prop}(hr:(execOp a.eval o).run P w=.ok .skip w')(h:K (a.put o.dst undef) w'):o.wp P a w K Q:=by
 unfold Oper.wp;rw[hr];exact h
theorem qxy{N:Nat}{d:Option Tmp}(h:yw N d):∀i,d=some i→i<N:=fun i hi=>by subst hi;exact h
theorem qx{N:Nat}{c:Ctx}{e:Env}{a:Act}{w:World}(s:Sim N c e a w){l:List Operand}(h:l6 e true l):∀x,x∈l→Rel c (e.getS x) (a.eval x) :=
 fun x hx=>xcw (s.eval x) (xi0 h x hx)
theorem xq0{c:Ctx}{x y z:AV}{u v v':Value}(hx:Rel c x u)(hy:Rel c y v)(hz:Rel c z v')(h:qzv true x y z):∃b,u=.bool b∧Rel c (qne x y z) (if b then v else v'):=by
 have h:=h rfl;unfold qne;have sx:=fun hh=>xcw hx hh;have sy:=fun hh=>xcw hy hh;have sz:=fun hh=>xcw hz hh;generalize x.strip=x' at *;generalize y.strip=y' at *;generalize z.strip=z' at *;split at h
 ·rename_i b;obtain⟨h1,h2,h3⟩:=h;refine⟨b,(sx h1).val_inv,?_⟩;split
  ·cases b with
   |true=>rw[(sy (h2 rfl)).val_inv];exact .val _
   |false=>rw[(sz (h3 rfl)).val_inv];exact .val _
  ·cases b with
   |true=>exact sy (h2 rfl)
   |false=>exact sz (h3 rfl)
 ·exact h.elim
end
theorem xga{P:Program}{w:World}(t ty e:TypeId)(i:TypeInfo)(z:Value)(ht:P.underlying t=some (.slice e))(hi:P.info? e=some i)(hz:i.zero=some z)
  (pi:z.cells.size=i.size) (jq:0<i.size) (v:Value) (n:Nat) (xs:List Value) (mi:w.ownsRow 0 e i.size v n xs)
  (a:Addr) (m c:Nat) (news:List Value) (hl:news.length=m * i.size) (hnews:∀j u,news[j]?=some u→w.cell? (a.add j)=some u) (h1:∀u∈news,u.oneCell'=true) (hm:0<m)
  (h63:n+m≤maxLen) (qnt:(n+m) * i.bytes≤140737488355328) :
  ∃v' w',(Builtin.append_ #[t,t] ty #[v,.slice (some a) m c]).run P w=.ok v' w'∧v'.oneCell'=true∧w'.ownsRow 0 e i.size v' (n+m) (xs++news)∧w'.os=w.os∧w'.tape=w.tape∧w'.output=w.output∧w.heap.size≤w'.heap.size ∧
   ((∃g,v.ownBlock=some g∧v'.ownBlock=some g∧∀k,k≠g→w'.heap[k]?=w.heap[k]?)∨(v'.ownBlock=some w.heap.size∧∀k,k<w.heap.size→w'.heap[k]?=w.heap[k]?)):=by
 have hsmall:n+m≤9223372036854775807:=by simp only[maxLen]at h63;omega
 have jr:(xs++news).length=(n+m) * i.size:=by rw[cz,mi.1,hl,fi]
 have grown:∀(old:Nat),old<n+m →
   (w.drew.alloc (.cells (xs.toArray++news.toArray++Builtin.zeroCells z.cells (grownCap w (n+m) old e - (n+m))) e)).ownsRow 0 e i.size
    (.slice (some ⟨w.heap.size,0,none⟩) (n+m) (grownCap w (n+m) old e)) (n+m) (xs++news):=by
  intro old ho;have oo:=grownCap_ge w (n+m) old e;have pz:grownCap w (n+m) old e≤maxLen:=grownCap_le_maxLen w (n+m) old e h63;refine⟨jr,.inr ⟨w.heap.size,_,_,rfl,di _,heap_alloc_new w.drew _,oo,pz,?_,?_⟩⟩
  ·simp only[Array.size_append,qlj,size_zeroCells,pi,mi.1,hl,←fi];congr 1;omega
  ·simp only[Array.toList_append,dr];rw[←dr,←jr];exact List.take_left
 rcases mi.2 with⟨rfl,rfl⟩|⟨g,cap,cur,rfl,hbg,hg,nz,pz,ma,u5⟩
 ·have hx:xs=[]:=fk (by simpa using mi.1);subst hx;have hr:=run_append_nil (P:=P) w t ty e i z ht hi hz a m c news hl hnews aa aa (by have hb:=qnt;simp only[db]at hb;omega);have hgr:=grown 0 aa;simp only[db,ej,qma]at hgr⊢;exact⟨_,_,hr,rfl,hgr,rfl,rfl,rfl,qfg w.drew _,.inr ⟨rfl,fun k hk=>heap_alloc_old w.drew _ k hk⟩⟩
 ·by_cases xn:n+m≤cap
  ·have qui:n * i.size+news.length≤cur.size:=by rw[hl,ma,←fi];exact fb _ xn
   have hr:=run_append_room (P:=P) w t ty e i ht hi g n cap cur hg a m c news hl hnews h1 xn qui;refine⟨_,_,hr,rfl,⟨jr,.inr ⟨g,cap,_,rfl,hbg,setRow_heap w g cur _ e _ hg,xn,pz,?_,?_⟩⟩,rfl,rfl,rfl,qgw,.inl ⟨g,rfl,rfl,fun k hk=>setRow_other w g k _ hk⟩⟩
   ·simp only[qlj,cz,du,gd,qlq];omega
   ·rw[u5,←jr];exact List.take_left
  ·have holds:∀j u,xs[j]?=some u→w.cell? ((⟨g,0,none⟩:Addr).add j)=some u:=mi.cells (g:=g) rfl;have hr:=run_append_grow (P:=P) w t ty e i z ht hi hz ⟨g,0,none⟩ n cap xs mi.1 holds a m c news hl hnews aa aa (growslice_fits aa qnt);exact⟨_,_,hr,rfl,grown cap aa,rfl,rfl,rfl,qfg w.drew _,.inr ⟨rfl,fun k hk=>heap_alloc_old w.drew _ k hk⟩⟩
theorem xsz{P:Program}{w:World}(t ty e:TypeId)(i:TypeInfo)(ht:P.underlying t=some (.slice e))(hi:P.info? e=some i)(v:Value)(n:Nat)(xs:List Value)(mi:w.ownsRow 0 e i.size v n xs)
  (ad:Option Addr) (c:Nat):(Builtin.append_ #[t,t] ty #[v,.slice ad 0 c]).run P w=.ok v w:=by
 have hfc:(Builtin.firstCells i.size 0 (.slice ad 0 c)).run P w=.ok #[] w:=by
  cases ad<;>simp[Builtin.firstCells,loadCells,loadCellsFrom]
 rcases mi.2 with⟨rfl,rfl⟩|⟨g,cap,cur,rfl,hbg,hg,nz,pz,ma,u5⟩
 ·simp[Builtin.append_,run_underlying ht,sizeOf,typeInfo,hi,Builtin.lenOf,hfc]
 ·simp[Builtin.append_,run_underlying ht,sizeOf,typeInfo,hi,Builtin.lenOf,hfc,nz,storeCells]
def Ctx.addSl(c:Ctx)(i n:Nat)(v:Value):Ctx:={ c with sl:=fun i' n'=>if i'=i∧n'=n then some v else c.sl i' n' }
theorem Ctx.addSl_le{c:Ctx}{i n:Nat}{v:Value}(h:c.sl i n=none):c.le (c.addSl i n v) :=
 ⟨fun _ _ _ h=>h,fun _ _ h=>h,fun i' n' u hu=>by
  simp only[Ctx.addSl];split
  ·rename_i he;rw[he.1,he.2,h]at hu;cases hu
  ·exact hu⟩
theorem DRel.flat{D:Nat→Nat→Option Value}{rows:List (List AV)}{vs:List Value}{sz:Nat}(h:∀(i j:Nat) (r:List AV) (x:AV),rows[i]?=some r→r[j]?=some x→∃u,vs[i * sz+j]?=some u∧DRel D x u)
  {news:List (List AV)} {us:List Value} (hl:vs.length=rows.length * sz) (k:∀(i j:Nat) (r:List AV) (x:AV),news[i]?=some r→r[j]?=some x→∃u,us[i * sz+j]?=some u∧DRel D x u) :
  ∀(i j:Nat) (r:List AV) (x:AV),(rows++news)[i]?=some r→r[j]?=some x→∃u,(vs++us)[i * sz+j]?=some u∧DRel D x u:=by
 intro i j r x hr hx;by_cases hi:i<rows.length
 ·rw[cu hi]at hr;obtain⟨u,hu,hd⟩:=h i j r x hr hx;have ib:i * sz+j<vs.length:=(cq.1 hu).1;exact⟨u,by rw[cu ib];exact hu,hd⟩
 ·rw[cy aa]at hr;obtain⟨u,hu,hd⟩:=k _ j r x hr hx;have he:i * sz+j=vs.length+((i - rows.length) * sz+j):=by
   rw[hl,Nat.sub_mul];have:rows.length * sz≤i * sz:=fb _ aa;omega
  refine⟨u,?_,hd⟩;rw[he,cy aa];rw[show vs.length+((i - rows.length) * sz+j) - vs.length=(i - rows.length) * sz+j from by omega];exact hu
theorem jke{E:Ent}{c:Ctx}{h:gz}{w:World}(s:HSim c h w)(k:E.ok c h w)(e:TypeId)(sz:Nat) :
  HSim (c.addSl h.length 0 (.slice none 0 0)) (h++[.arr e sz []]) w∧E.ok (c.addSl h.length 0 (.slice none 0 0)) (h++[.arr e sz []]) w:=by
 have ig:c.le (c.addSl h.length 0 (.slice none 0 0)):=Ctx.addSl_le ((s.dom _ (ct _)).2 0);have pn:∀i,i<h.length→∀m,(c.addSl h.length 0 (.slice none 0 0)).sl i m=c.sl i m:=fun i hi m=>by
  simp only[Ctx.addSl];rw[if_neg aa]
 have ib:∀{i:Nat} {o:AObj},h[i]?=some o→i<h.length:=fun hi=>(cq.1 hi).1;have sw:jb (c.addSl h.length 0 (.slice none 0 0)) h.length (.arr e sz [])=none:=qik;refine⟨⟨s.data,fun i hi=>?_,fun i o hi=>?_,fun i j o o' b hi hj hb il=>?_,fun i o b j v hi hb hD=>?_⟩,⟨k.edom,k.ext.trans ig,k.blk0,qf5,k.os,k.tape,k.output,k.size,k.frame,fun i o b hi hb=>?_,k.dold⟩⟩
 ·simp only[cz,d5,ee]at hi;have:=s.dom i aa;refine⟨this.1,fun m=>?_⟩;simp only[Ctx.addSl];rw[if_neg aa];exact this.2 m
 ·rcases r4 hi with h1|⟨rfl,rfl⟩
  ·exact(s.obj i o h1).keep ig (pn i (ib h1)) fun _ _=>rfl
  ·refine⟨.slice none 0 0,[],bu,rfl,fun m hm=>?_,World.ownsRow_nil w 0 e sz,ae,ae,ae,fun b j hb=>by cases hb⟩;simp only[Ctx.addSl];rw[if_neg qhj];exact(s.dom _ (ct _)).2 m
 ·rcases r4 hi with h1|⟨rfl,rfl⟩<;>rcases r4 hj with h2|⟨rfl,rfl⟩
  ·rw[(s.obj i o h1).blk ig]at hb;rw[(s.obj j o' h2).blk ig]at il;exact s.apart i j o o' b h1 h2 hb il
  ·rw[sw]at il;cases il
  ·rw[sw]at hb;cases hb
  ·rfl
 ·rcases r4 hi with h1|⟨rfl,rfl⟩
  ·rw[(s.obj i o h1).blk ig]at hb;exact s.sep i o b j v h1 hb hD
  ·rw[sw]at hb;cases hb
 ·rcases r4 hi with h1|⟨rfl,rfl⟩
  ·rw[(s.obj i o h1).blk ig]at hb;exact k.newobj i o b h1 hb
  ·rw[sw]at hb;cases hb
theorem jih{E:Ent}{c:Ctx}{h:gz}{w w':World}(s:HSim c h w)(k:E.ok c h w){i e sz m:Nat}{rows news:List (List AV)}{v v':Value}{us:List Value}(hi:h[i]?=some (.arr e sz rows))
  (hv:c.sl i rows.length=some v) (xp:news.length=m) (hm:0<m) (jr:rows.length+m≤68719476736) (ny:∀r,r∈news→r.length=sz)
  (wg:∀(i' j:Nat) (r:List AV) (x:AV),news[i']?=some r→r[j]?=some x→∃u,us[i' * sz+j]?=some u∧DRel c.D x u) (ho:v'.oneCell'=true)
  (mi:∀xs,w.ownsRow 0 e sz v rows.length xs→w'.ownsRow 0 e sz v' (rows.length+m) (xs++us)) (hos:w'.os=w.os) (ht:w'.tape=w.tape) (hou:w'.output=w.output) (hs:w.heap.size≤w'.heap.size)
  (tz:(∃g,v.ownBlock=some g∧v'.ownBlock=some g∧∀k,k≠g→w'.heap[k]?=w.heap[k]?)∨(v'.ownBlock=some w.heap.size∧∀k,k<w.heap.size→w'.heap[k]?=w.heap[k]?)) :
  ∃c',c.le c'∧HSim c' (h.set i (.arr e sz (rows++news))) w'∧E.ok c' (h.set i (.arr e sz (rows++news))) w'∧Rel c' (.own i (rows.length+m)) v':=by
 obtain⟨v0,vs,h1,_,v8,h2,h3,h4,h5,h6⟩:=s.obj i _ hi;rw[hv]at h1;cases h1;have qn7:=mi vs h2;have qoe:c.sl i (rows.length+m)=none:=v8 _ aa;have hle0:c.le (c.addSl i (rows.length+m) v'):=Ctx.addSl_le qoe;have xch:jb c i (.arr e sz rows)=v.ownBlock:=qgs
 -- what is known of the new block's cells,as data
 let L:=vs++us
 have hL:L.length=(rows.length+m) * sz:=qn7.1;have hcellL:∀g j u,v'.ownBlock=some g→L[j]?=some u→w'.cell? ⟨g,j,none⟩=some u:=fun g j u hg hu=>by
  have:=qn7.cells hg j u hu
  rwa [xk,db]at this
 have se:∀b j u,c.D b j=some u→v'.ownBlock=some b→j<rows.length * sz∧L[j]?=some u:=fun b j u hD jf=>by
  rcases tz with⟨g,hg,v6,hk⟩|⟨v6,hk⟩
  ·rw[v6]at jf;cases jf;have hj:j<rows.length * sz:=s.sep i _ b j u hi b0 hD;have se:j<vs.length:=by rw[h2.1];exact hj
   have c1:=h2.cells hg j vs[j] (by simp[se]);rw[xk,db,s.data b j u hD]at c1;refine⟨hj,?_⟩;show(vs++us)[j]?=some u;rw[cu se,da se,←c1]
  ·rw[v6]at jf;cases jf;rw[s.noD (ct _)]at hD;cases hD
 let c':Ctx:={ c.addSl i (rows.length+m) v' with D:=fun b j=>if v'.ownBlock=some b∧j<L.length then L[j]? else c.D b j }
 have hDle:∀b j u,c.D b j=some u→c'.D b j=some u:=fun b j u hD=>by
  simp only[c'];split
  ·rename_i hh;exact(se b j u hD hh.1).2
  ·exact hD
 have ig:c.le c':=⟨hDle,fun _ _ h=>h,hle0.sl⟩
 have quw:∀b j u,c'.D b j=some u→(v'.ownBlock=some b∧j<L.length∧L[j]?=some u)∨(v'.ownBlock≠some b∧c.D b j=some u):=fun b j u hD=>by
  simp only[c']at hD;split at hD
  ·rename_i hh;exact .inl ⟨hh.1,hh.2,hD⟩
  ·rename_i hh;by_cases hb:v'.ownBlock=some b
   ·have h7:=se b j u hD hb;exact .inl ⟨hb,(cq.1 h7.2).1,h7.2⟩
   ·exact .inr ⟨hb,hD⟩
 have pn:∀j,j≠i→∀m',c'.sl j m'=c.sl j m':=fun j hj m'=>by
  simp only[c',Ctx.addSl];rw[if_neg qks]
 have qt9:(rows++news).length=rows.length+m:=by simp[xp]
 have hslv:c'.sl i (rows++news).length=some v':=by simp[c',Ctx.addSl,qt9]
 have qnh:jb c' i (.arr e sz (rows++news))=v'.ownBlock:=qh1;have hile:i<h.length:=(cq.1 hi).1
 -- a block of another object stands
 have o9:∀j o b,j≠i→h[j]?=some o→jb c j o=some b→w'.heap[b]?=w.heap[b]?:=fun j o b hj kg hb=>by
  rcases tz with⟨g,hg,jf,hk⟩|⟨jf,hk⟩
  ·refine hk b fun e=>hj ?_;subst e;exact s.apart j i o _ b kg hi hb b0
  ·exact hk b ((s.obj j o kg).lt hb)
 -- the new block of object i,and the others
 have qrq:∀j o b,j≠i→h[j]?=some o→jb c j o=some b→v'.ownBlock≠some b:=fun j o b hj kg hb ph=>by
  rcases tz with⟨g,hg,jf,hk⟩|⟨jf,hk⟩
  ·rw[jf]at ph;cases ph;exact hj (s.apart j i o _ _ kg hi hb b0)
  ·rw[jf]at ph;cases ph;have:=(s.obj j o kg).lt hb;omega
 have xs2:∀b,v'.ownBlock=some b→(∃o0,E.h[i]?=some o0∧jb E.c i o0=some b)∨E.w.heap.size≤b:=fun b hb=>by
  rcases tz with⟨g,hg,jf,hk⟩|⟨jf,hk⟩
  ·rw[jf]at hb;cases hb;exact k.newobj i _ _ hi b0
  ·rw[jf]at hb;cases hb;exact .inr k.size
 refine⟨c',ig,⟨fun b j u hD=>?_,fun j hj=>?_,fun j o hj=>?_,fun j j' o o' b hj oq hb il=>?_,fun j o b n u hj hb hD=>?_⟩,⟨k.edom,k.ext.trans ig,k.blk0,bz,hos.trans k.os,ht.trans k.tape,hou.trans k.output,d9 k.size hs,fun b hb iz=>?_,fun j o b hj hb=>?_,fun b j u hD=>?_⟩,
  .own i _ v' (by simp[c',Ctx.addSl]) ho⟩
 ·rcases quw b j u hD with⟨hg,_,hu⟩|⟨hg,o6⟩
  ·exact hcellL b j u hg hu
  ·have mw:=s.data b j u o6;rcases tz with⟨g,hg1,jf,hk⟩|⟨jf,hk⟩
   ·rw[World.cell?_of_block (w:=w) (hk b (fun e=>hg (by rw[jf,e])))];exact mw
   ·have hb:b<w.heap.size:=World.block_lt_of_cell? w ⟨b,j,none⟩ mw;rw[World.cell?_of_block (w:=w) (hk b hb)];exact mw
 ·have oq:h.length≤j:=bf;have:=s.dom j oq;exact⟨this.1,fun m'=>by rw[pn j aa];exact this.2 m'⟩
 ·rcases l7 hj with⟨rfl,rfl⟩|⟨ii,kg⟩
  ·refine⟨v',vs++us,hslv,ho,fun m' pc=>?_,by rw[qt9];exact qn7,aa,fun r hr=>?_,fun i' j' r x hr hx=>?_,fun b n hb hn=>?_⟩
   ·simp only[c',Ctx.addSl];rw[if_neg aa];exact v8 m' aa
   ·rcases dt.1 hr with hr|hr
    ·exact h4 r hr
    ·exact ny r hr
   ·obtain⟨u,hu,hd⟩:=DRel.flat h5 h2.1 wg i' j' r x hr hx;exact⟨u,hu,hd.mono hDle⟩
   ·rw[qt9,←hL]at hn;refine⟨L[n],?_⟩;simp only[c',if_pos (show v'.ownBlock=some b∧n<L.length from⟨hb,hn⟩)];exact da hn
  ·exact(s.obj j o kg).keep ig (pn j ii) fun b hb=>o9 j o b ii kg hb
 ·rcases l7 hj with⟨rfl,rfl⟩|⟨ii,kg⟩<;>rcases l7 oq with⟨h8,h7⟩|⟨hne',hjo'⟩
  ·exact h8.symm
  ·rw[qnh]at hb;rw[(s.obj j' o' hjo').blk ig]at il;exact(qrq j' o' b hne' hjo' il hb).elim
  ·subst h8;subst h7;rw[qnh]at il;rw[(s.obj j o kg).blk ig]at hb;exact(qrq j o b ii kg hb il).elim
  ·rw[(s.obj j o kg).blk ig]at hb;rw[(s.obj j' o' hjo').blk ig]at il;exact s.apart j j' o o' b kg hjo' hb il
 ·rcases l7 hj with⟨rfl,rfl⟩|⟨ii,kg⟩
  ·rw[qnh]at hb;simp only[AObj.shares,qt9];rcases quw b n u hD with⟨_,hn,_⟩|⟨hg,_⟩
   ·rw[←hL];exact hn
   ·exact(hg hb).elim
  ·rw[(s.obj j o kg).blk ig]at hb;rcases quw b n u hD with⟨hg,_⟩|⟨_,o6⟩
   ·exact(qrq j o b ii kg hb hg).elim
   ·exact s.sep j o b n u kg hb o6
 ·have ii:∀g,v.ownBlock=some g→b≠g:=fun g hg e=>by
   subst e;rcases k.newobj i _ b hi b0 with⟨o0,h0,h1⟩|h2
   ·exact iz i o0 h0 h1
   ·omega
  rcases tz with⟨g,hg,jf,hk⟩|⟨jf,hk⟩
  ·rw[hk b (ii g hg)];exact k.frame b hb iz
  ·rw[hk b (qlo hb k.size)];exact k.frame b hb iz
 ·rcases l7 hj with⟨rfl,rfl⟩|⟨ii,kg⟩
  ·rw[qnh]at hb;exact xs2 b hb
  ·rw[(s.obj j o kg).blk ig]at hb;exact k.newobj j o b kg hb
 ·rcases quw b j u hD with⟨hg,_⟩|⟨_,o6⟩
  ·rcases xs2 b hg with⟨o0,g1,g2⟩|g1
   ·exact .inr (.inr ⟨i,o0,g1,g2⟩)
   ·exact .inr (.inl g1)
  ·exact k.dold b j u o6
theorem xhw{c:Ctx}{h:gz}{w:World}(s:HSim c h w){rows:List (List AV)}{sz:Nat}(jq:∀r,r∈rows→r.length=sz)(h0:0<sz){u:Value}(hr:DRel c.D (.slice rows) u) :
  ∃ad cap,u=.slice ad rows.length cap∧(rows=[]∨∃b off,ad=some ⟨b,off,none⟩∧∃us:List Value,us.length=rows.length * sz∧(∀j v,us[j]?=some v→w.cell? ⟨b,off+j,none⟩=some v)∧(∀v,v∈us→v.oneCell'=true) ∧
   ∀(i j:Nat) (r:List AV) (x:AV),rows[i]?=some r→r[j]?=some x→∃v,us[i * sz+j]?=some v∧DRel c.D x v):=by
 cases hr with
 |nil=>exact⟨none,0,rfl,.inl rfl⟩
 |empty a=>exact⟨some a,0,rfl,.inl rfl⟩
 |slice rows b off cap kl g u6 hB hc hD hh =>
  refine⟨_,cap,rfl,?_⟩;by_cases he:rows=[]
  ·exact .inl he
  ·refine .inr ⟨b,off,rfl,?_⟩;have kq:0<rows.length:=by cases rows with|nil=>exact(he rfl).elim|cons=>simp
   have:kl=sz:=by rw[←u6 rows[0] ae,jq rows[0] ae]
   subst this;obtain⟨us,hl,hp⟩:=xeq (fun k v=>w.cell? ⟨b,off+k,none⟩=some v∧v.oneCell'=true∧∀r x,rows[k / kl]?=some r→r[k % kl]?=some x→DRel c.D x v) (rows.length * kl) (fun k hk=>by
    have hq:k / kl<rows.length:=Nat.div_lt_of_lt_mul (by rw[qlk];exact hk);have ny:rows[k / kl].length=kl:=u6 _ ae;have hm:k % kl<rows[k / kl].length:=by rw[ny];exact Nat.mod_lt _ h0
    have e1:rows[k / kl]?=some rows[k / kl]:=cn;have e2:rows[k / kl][k % kl]?=some rows[k / kl][k % kl]:=by simp[hm]
    have hd:=hD _ _ _ _ e1 e2;have jz:=hh _ _ _ _ e1 e2;have kb:off+k / kl * kl+k % kl=off+k:=by
     have:=Nat.div_add_mod k kl;rw[qlk]at this;omega
    rw[kb]at hd;refine⟨_,s.data _ _ _ hd,jz.one,fun r x hr hx=>?_⟩;rw[e1]at hr;cases hr;rw[e2]at hx;cases hx;exact jz)
   refine⟨us,hl,fun j v hv=>(hp j v hv).1,fun v hv=>?_,fun i j r x hr hx=>?_⟩
   ·obtain⟨j,hj⟩:=dv hv;exact(hp j v hj).2.1
   ·have hj:j<kl:=by rw[←u6 r (c7 hr)];exact(cq.1 hx).1
    have hi:i<rows.length:=(cq.1 hr).1;have ib:i * kl+j<us.length:=by
     have:(i+1) * kl≤rows.length * kl:=fb _ hi;rw[fi]at this;omega
    refine⟨us[i * kl+j],bp,(hp (i * kl+j) _ bp).2.2 r x ?_ ?_⟩
    ·rw[qlk,Nat.mul_add_div h0,Nat.div_eq_of_lt hj,d6];exact hr
    ·rw[qlk,Nat.mul_add_mod,Nat.mod_eq_of_lt hj];exact hx
end Go.Abs
