/- Part 6 of a proof: AbsK, AbsL, AbsM -/
import Derived.Test.YtilhejdbiionhaaGreatDoorR05
set_option linter.all false

namespace Go.Abs
def AV.strip:AV→AV
 | .opt _ v=>v
 |v=>v
def AV.has(G:Bool):AV→Prop
 | .opt g _=>G=true→g=true
 |_=>True
def Env.getS(e:Env)(x:Operand):AV:=(e.get x).strip
def qaw(e:Env)(G:Bool):List Operand→Prop
 | []=>True
 |x::l=>(e.get x).has G∧qaw e G l
theorem haveAll_mem{e:Env}{G:Bool}:∀{l:List Operand},qaw e G l→∀x,x∈l→(e.get x).has G
 | [],_,x,hx=>by cases hx
 |y::l,h,x,hx=>by
  cases hx with
  |head=>exact h.1
  |tail _ hx=>exact haveAll_mem h.2 x hx
theorem strip_rel{c:Ctx}{x:AV}{v:Value}(h:Rel c x v)(hh:x.has true):Rel c x.strip v:=by
 cases x with
 |opt g y =>
  cases h with
  |data h=>cases h
  |opt g x v h hn=>exact h (hh rfl)
 |_=>exact h
def gB(ds:List (Option Tmp))(e:Env):Option (Nat×Bool)→Option Bool
 |none=>some true
 |some (j,want) =>
  match ds[j]? with
  |some (some t)=>match qbb e.t t with
   | .val (.bool b)=>some (b == want)
   | .opt g (.val (.bool b))=>some (g&&(b == want))
   | .opt false _=>some false
   |_=>none
  |_=>none
def qee(N:Nat):Option Tmp→Prop
 |none=>True
 |some d=>d<N
def optV(g:Option (Nat×Bool))(G:Bool)(v:AV):AV :=
 match g with
 |none=>v
 |some _=>.opt G v
def pickV(x y z:AV):AV :=
 match x.strip with
 | .val (.bool b)=>match y.strip,z.strip with
  | .val (.bool p),.val (.bool q)=>.val (.bool (bif b then p else q))
  |y',z'=>bif b then y' else z'
 |_=>.top
def pickOk(G:Bool)(x y z:AV):Prop :=
 G=true→match x.strip with
  | .val (.bool b)=>x.has true∧(b=true→y.has true)∧(b=false→z.has true)
  |_=>False
def AV.isIface:AV→Bool
 | .iface _ _=>true
 |_=>false
def AV.isInt:AV→Bool
 | .val (.int _ _)=>true
 |_=>false
def AV.isData:AV→Bool
 | .val v=>v.oneCell'
 | .slice _=>true
 |_=>false
def litRows(h:qab)(sz:Nat):Nat→List (Nat×AV)→Option (List (List AV))
 |_,[]=>some []
 |k,(i,x)::l =>
  if i=k∧x.cellsOk=true∧x.cells.length=sz∧(qbi h x.cells).all AV.isData=true then(litRows h sz (k+1) l).map ((qbi h x.cells)::·)else none
def litOne(sz:Nat):Nat→List (Nat×AV)→Option (List AV)
 | 1,[(0,x)]=>if x.cellsOk=true∧x.cells.length=sz then some x.cells else none
 |_,_=>none
def srcRows(h:qab):AV→Option (List (List AV))
 | .slice rows=>some rows
 | .nils=>some []
 | .own i n=>match h[i]? with
  |some (.arr _ _ rows)=>if rows.length=n then some rows else none
  |_=>none
 |_=>none
def qaq(P:Program)(t:TypeId):Nat:=match ti P t with|some x=>x.bytes|none=>0
def aAppend0(P:Program)(T:TypeId)(s x:AV)(h:qab)(K:AV→qab→Prop):Prop :=
 match qah P T,srcRows h x with
 | .slice e sz,some news =>
  RowsLen sz news∧0<sz∧qaq P e≤2048∧qat P e=sz∧qah P e≠.other ∧
  match s with
  | .nils=>news.length≤68719476736∧K (.own h.length news.length) (h++[.arr e sz news])
  | .own i n=>match h[i]? with
   |some (.arr e' sz' rows)=>e'=e∧sz'=sz∧rows.length=n∧rows.length+news.length≤68719476736∧K (.own i (n+news.length)) (h.set i (.arr e sz (rows++news)))
   |some (.uarr e' sz' rows)=>e'=e∧sz'=sz∧rows.length=n∧rows.length+news.length≤68719476736∧K (.own i (n+news.length)) (h.set i (.uarr e sz (rows++news)))
   |_=>False
  |_=>False
 |_,_=>False
def aAppend(P:Program)(T:TypeId)(s x:AV)(h:qab)(K:AV→qab→Prop):Prop :=
 match x with
 | .lit cells =>
  match qah P T,s with
  | .slice e sz,.own i n=>match h[i]? with
   |some (.oarr e' sz' rows)=>cells.length=sz∧0<sz∧qaq P e≤2048∧qat P e=sz∧qah P e≠.other∧e'=e∧sz'=sz∧rows.length=n∧rows.length+1≤68719476736∧K (.own i (n+1)) (h.set i (.oarr e sz (rows++[cells])))
   |_=>False
  |_,_=>False
 |x=>aAppend0 P T s x h K
def opEff(P:Program)(e:Env):Op→(AV→qab→Prop)→(AV→qab→Prop)→Prop
 | .box _ x,K,_=>qaw e true [x]∧(e.getS x).cellsOk=true∧K (.ptr e.h.length 0) (e.h++[.cells (e.getS x).cells])
 | .alloc T,K,_=>qah P T≠.other∧K (.ptr e.h.length 0) (e.h++[.cells (qba P T)])
 | .store T a x,K,_ =>
  qaw e true [a,x] ∧
  match e.getS a with
  | .ptr i off=>match e.h[i]? with
   |some (.cells xs)=>(e.getS x).cellsOk=true∧(e.getS x).cells.length=qat P T∧qah P T≠.other∧off+(e.getS x).cells.length≤xs.length ∧
     K .top (e.h.set i (.cells (xs.take off++(e.getS x).cells++xs.drop (off+(e.getS x).cells.length))))
   |_=>False
  | .optr i n sz r q=>match e.h[i]? with
   |some (.uarr t sz' rows)=>rows.length=n∧sz'=sz∧r<rows.length∧(e.getS x).cellsOk=true∧(qbi e.h (e.getS x).cells).all AV.isData=true∧(e.getS x).cells.length=qat P T∧qah P T≠.other∧q+(e.getS x).cells.length≤sz ∧
     K .top (e.h.set i (.uarr t sz (rows.set r ((rows.getD r []).take q++qbi e.h (e.getS x).cells++(rows.getD r []).drop (q+(e.getS x).cells.length)))))
   |some (.oarr t sz' rows)=>rows.length=n∧sz'=sz∧r<rows.length∧(e.getS x).cellsOk=true∧(e.getS x).cells.length=qat P T∧qah P T≠.other∧q+(e.getS x).cells.length≤sz ∧
     K .top (e.h.set i (.oarr t sz (rows.set r ((rows.getD r []).take q++(e.getS x).cells++(rows.getD r []).drop (q+(e.getS x).cells.length)))))
   |_=>False
  |_=>False
 | .buildSlice T n parts,K,_ =>
  match qah P T with
  | .slice el sz=>match litRows e.h sz 0 (parts.toList.map fun p=>(p.1,e.getS p.2))with
   |some rows=>qaw e true (parts.toList.map (·.2))∧rows.length=n∧0<sz∧n * sz≤16777216∧qah P el≠.other∧qat P el=sz∧K (.slice rows) e.h
   |none=>match litOne sz n (parts.toList.map fun p=>(p.1,e.getS p.2))with
    |some cs=>qaw e true (parts.toList.map (·.2))∧0<sz∧sz≤16777216∧qah P el≠.other∧qat P el=sz∧K (.lit cs) e.h
    |none=>False
  |_=>False
 | .call { callee:=.value f,args,.. },K,Kp =>
  qaw e true (f::args.toList) ∧
  match e.getS f with
  | .fn (.func fid) first caps=>ACalls P fid (qbi e.h (first++args.toList.map e.getS++caps)) e.h fun r h'=>match r with
   | .ret v=>K v h'
   | .panic v=>Kp v h'
  |_=>False
 | .call { callee:=.builtin .append,args,argTypes },K,_ =>
  match args.toList,argTypes.toList with
  | [s,x],[T,T']=>qaw e true [s,x]∧T'=T∧aAppend P T (e.getS s) (e.getS x) e.h K
  |_,_=>False
 | .range T x,K,_ =>
  qaw e true [x] ∧
  match qah P T,e.getS x with
  | .string,.val (.string s)=>K (.ptr e.h.length 0) (e.h++[.iter s 0])
  |_,_=>False
 | .next x true,K,_ =>
  qaw e true [x] ∧
  match e.getS x with
  | .ptr i 0=>match e.h[i]? with
   |some (.iter s p) =>
    if p<s.size then K (.tuple [.val (.bool true),.val (.int .i64 p),.val (.int .i32 (Utf8.decode s p).1)]) (e.h.set i (.iter s (p+(Utf8.decode s p).2)))
    else K (.tuple [.val (.bool false)]) e.h
   |_=>False
  |_=>False
 | .panic x,_,Kp=>qaw e true [x]∧(e.getS x).isIface=true∧Kp (e.getS x) e.h
 | .makeMap T r,K,_ =>
  match qah P T with
  | .map _ _=>(match r with|none=>True|some x=>qaw e true [x]∧(e.getS x).isInt=true)∧K (.mapr e.h.length) (e.h++[.map []])
  |_=>False
 | .mapUpdate T m key x,K,_ =>
  qaw e true [m,key,x] ∧
  match qah P T,e.getS m,e.getS key with
  | .map kt _,.mapr i,.val (.string s)=>match e.h[i]? with
   |some (.map es)=>match strKeys es with
    |some l=>qah P kt=.string∧K .top (e.h.set i (.map (qb5 (kvSet l s (e.getS x)))))
    |none=>False
   |_=>False
  |_,_,_=>False
 | .call { callee:=.builtin .delete,args,argTypes },K,_ =>
  match args.toList,argTypes.toList with
  | [m,key],[T,_]=>qaw e true [m,key] ∧
   match qah P T,e.getS m,e.getS key with
   | .map kt _,.mapr i,.val (.string s)=>match e.h[i]? with
    |some (.map es)=>match strKeys es with
     |some l=>qah P kt=.string∧K (.tuple []) (e.h.set i (.map (qb5 (kvDel l s))))
     |none=>False
    |_=>False
   |_,_,_=>False
  |_,_=>False
 |_,_,_=>False
def isEff:Op→Bool
 | .box .. | .alloc _| .panic _| .range .. | .next _ true| .store .. | .buildSlice .. | .makeMap .. | .mapUpdate .. | .call { callee:=.value _,.. } | .call { callee:=.builtin .append,.. } | .call { callee:=.builtin .delete,.. }=>true
 |_=>false
@[reducible] def GCall(P:Program)(fid:FuncId)(G:Bool)(pre:Prop)(args:List AV)(h:qab)(K:AV→Prop)(KE:AEnd→qab→Prop):Prop :=
 (∃r,(G=true→pre∧APure P fid args r)∧K r)∨(G=true∧pre∧ACalls P fid args h KE)
def stepF(P:Program)(N:Nat)(Q:AExit→Env→Prop)(ds:List (Option Tmp))(o:Oper)(e:Env)(K:Env→Prop):Prop :=
 match gB ds e o.guard with
 |none=>False
 |some G =>
  qee N o.dst ∧
  match o.op with
  | .pick x y z=>pickOk G (e.get x) (e.get y) (e.get z)∧K (e.put o.dst (optV o.guard G (pickV (e.get x) (e.get y) (e.get z))))
  |op =>
   match isEff op,o.guard with
   |false,g=>(G=true→qaw e true op.operands.toList∧(qbp P e.getS e.h op).side)∧K (e.put o.dst (optV g G (qbp P e.getS e.h op).val))
   |true,none=>opEff P e op (fun v h'=>K (({ e with h:=h' }:Env).put o.dst v)) (fun v h'=>Q (.panic v) { e with h:=h' })
   |true,some _=>match op with
    | .call { callee:=.value f,args,.. }=>match e.getS f with
     | .fn (.func fid) first caps=>GCall P fid G (qaw e true (f::args.toList)) (qbi e.h (first++args.toList.map e.getS++caps)) e.h (fun r=>K (e.put o.dst (.opt G r))) fun r h'=>match r with
        | .ret v=>K (({ e with h:=h' }:Env).put o.dst (.opt true v))
        | .panic v=>Q (.panic v) { e with h:=h' }
     |_=>False
    |_=>False
def opsF(P:Program)(N:Nat)(Q:AExit→Env→Prop):List (Option Tmp)→List Oper→Env→Prop
 |_,[],e=>Q .normal e
 |ds,o::l,e=>stepF P N Q ds o e (opsF P N Q (ds++[o.dst]) l)
section
variable {P:Program} {E:Ent}
theorem wanted_eq{ops:Array Oper}{done:List Oper}{rest:List Oper}(hops:ops.toList=done++rest){N:Nat}{c:Ctx}{e:Env}{a:Act}{w:World}(s:Sim N c e a w){o:Oper}{G:Bool}
  (h:gB (done.map (·.dst)) e o.guard=some G):Region.wanted o (yielded ops a.tmps)=G:=by
 unfold gB at h;unfold Region.wanted;split at h
 ·rename_i hg;simp only[hg];simpa using h
 ·rename_i j want hg;simp only[hg];split at h
  ·rename_i t ht;have hj:(ops[j]?).bind (·.dst)=some t:=by
    simp only[List.getElem?_map,Option.map_eq_some_iff]at ht;obtain⟨o',ho',hd⟩:=ht;have:ops[j]?=some o':=by
     have h1:ops.toList[j]?=some o':=by
      rw[hops,List.getElem?_append_left (List.getElem?_eq_some_iff.1 ho').1];exact ho'
     simpa using h1
    simp[this,hd]
   have hr:=s.tmps t;have hy:∀b,a.tmps.getD t undef=.bool b→yielded ops a.tmps j=some b:=fun b hb=>by
    unfold yielded;rw[hj];simp only[Option.bind_some];simp only[Array.getD_eq_getD_getElem?]at hb;cases ht':a.tmps[t]? with
    |none=>rw[ht']at hb;simp[undef]at hb
    |some v=>rw[ht']at hb;simp at hb;subst hb;rfl
   split at h
   ·rename_i b hb;rw[hb]at hr;rw[hy b hr.val_inv];simp only[Option.some.injEq]at h;rw[←h];cases b<;>cases want<;>rfl
   ·rename_i g b hb;rw[hb]at hr;simp only[Option.some.injEq]at h;cases g with
    |true =>
     have hr':Rel c (.val (.bool b)) (a.tmps.getD t undef):=by
      cases hr with
      |data h=>cases h
      |opt g x v h hn=>exact h rfl
     rw[hy b hr'.val_inv,←h];cases b<;>cases want<;>rfl
    |false =>
     have hu:a.tmps.getD t undef=undef:=by
      cases hr with
      |data h=>cases h
      |opt g x v h hn=>exact hn rfl
     have:yielded ops a.tmps j=none:=by
      unfold yielded;rw[hj];simp only[Option.bind_some];simp only[Array.getD_eq_getD_getElem?]at hu;cases ht':a.tmps[t]? with
      |none=>rfl
      |some v=>rw[ht']at hu;simp at hu;subst hu;rfl
     rw[this,←h];rfl
   ·rename_i x hnb hb;rw[hb]at hr;simp only[Option.some.injEq]at h;have hu:a.tmps.getD t undef=undef:=by
     cases hr with
     |data h=>cases h
     |opt g x v h hn=>exact hn rfl
    have:yielded ops a.tmps j=none:=by
     unfold yielded;rw[hj];simp only[Option.bind_some];simp only[Array.getD_eq_getD_getElem?]at hu;cases ht':a.tmps[t]? with
     |none=>rfl
     |some v=>rw[ht']at hu;simp at hu;subst hu;rfl
    rw[this,←h];rfl
   ·cases h
  ·cases h
theorem qdq{ops:Array Oper}{Q:Exit→Act→World→Prop}{o:Oper}{rest:List Oper}{a:Act}{w:World}{G:Bool}(hw:Region.wanted o (yielded ops a.tmps)=G)
  (h1:G=true→o.wp P a w (wpList P ops Q rest) Q) (h2:G=false→wpList P ops Q rest (a.put o.dst undef) w):wpList P ops Q (o::rest) a w:=by
 unfold wpList;cases G with
 |true=>rw[if_pos hw];exact .inl (h1 rfl)
 |false=>rw[if_neg (by simp[hw])];exact h2 rfl
theorem qb1{o:Oper}{a:Act}{w w':World}{v:Value}{K:Act→World→Prop}{Q:Exit→Act→World→Prop}(hr:(execOp a.eval o).run P w=.ok (.value v) w')(h:K (a.put o.dst v) w'):o.wp P a w K Q:=by
 unfold Oper.wp;rw[hr];exact h
theorem wp_skipV{o:Oper}{a:Act}{w w':World}{K:Act→World→Prop}{Q:Exit→Act→World→Prop}(hr:(execOp a.eval o).run P w=.ok .skip w')(h:K (a.put o.dst undef) w'):o.wp P a w K Q:=by
 unfold Oper.wp;rw[hr];exact h
theorem dst_lt{N:Nat}{d:Option Tmp}(h:qee N d):∀i,d=some i→i<N:=fun i hi=>by subst hi;exact h
theorem qbe{N:Nat}{c:Ctx}{e:Env}{a:Act}{w:World}(s:Sim N c e a w){l:List Operand}(h:qaw e true l):∀x,x∈l→Rel c (e.getS x) (a.eval x) :=
 fun x hx=>strip_rel (s.eval x) (haveAll_mem h x hx)
theorem pick_rel{c:Ctx}{x y z:AV}{u v v':Value}(hx:Rel c x u)(hy:Rel c y v)(hz:Rel c z v')(h:pickOk true x y z):∃b,u=.bool b∧Rel c (pickV x y z) (if b then v else v'):=by
 have h:=h rfl;unfold pickV;have sx:=fun hh=>strip_rel hx hh;have sy:=fun hh=>strip_rel hy hh;have sz:=fun hh=>strip_rel hz hh;generalize x.strip=x' at *;generalize y.strip=y' at *;generalize z.strip=z' at *;split at h
 ·rename_i b;obtain⟨h1,h2,h3⟩:=h;refine⟨b,(sx h1).val_inv,?_⟩;split
  ·cases b with
   |true=>rw[(sy (h2 rfl)).val_inv];exact .val _
   |false=>rw[(sz (h3 rfl)).val_inv];exact .val _
  ·cases b with
   |true=>exact sy (h2 rfl)
   |false=>exact sz (h3 rfl)
 ·exact h.elim
end
end Go.Abs

namespace Go.Abs
theorem append_two{P:Program}{w:World}(t ty e:TypeId)(i:TypeInfo)(z:Value)(ht:P.underlying t=some (.slice e))(hi:P.info? e=some i)(hz:i.zero=some z)
  (hzs:z.cells.size=i.size) (hsz:0<i.size) (v:Value) (n:Nat) (xs:List Value) (hown:w.ownsRow 0 e i.size v n xs)
  (a:Addr) (m c:Nat) (news:List Value) (hl:news.length=m * i.size) (hnews:∀j u,news[j]?=some u→w.cell? (a.add j)=some u) (h1:∀u∈news,u.oneCell'=true) (hm:0<m)
  (h63:n+m≤maxLen) (hbytes:(n+m) * i.bytes≤140737488355328) :
  ∃v' w',(Builtin.append_ #[t,t] ty #[v,.slice (some a) m c]).run P w=.ok v' w'∧v'.oneCell'=true∧w'.ownsRow 0 e i.size v' (n+m) (xs++news)∧w'.os=w.os∧w'.tape=w.tape∧w'.output=w.output∧w.heap.size≤w'.heap.size ∧
   ((∃g,v.ownBlock=some g∧v'.ownBlock=some g∧∀k,k≠g→w'.heap[k]?=w.heap[k]?)∨(v'.ownBlock=some w.heap.size∧∀k,k<w.heap.size→w'.heap[k]?=w.heap[k]?)):=by
 have hsmall:n+m≤9223372036854775807:=by simp only[maxLen]at h63;omega
 have hlen:(xs++news).length=(n+m) * i.size:=by rw[List.length_append,hown.1,hl,Nat.add_mul]
 have grown:∀(old:Nat),old<n+m →
   (w.drew.alloc (.cells (xs.toArray++news.toArray++Builtin.zeroCells z.cells (grownCap w (n+m) old e - (n+m))) e)).ownsRow 0 e i.size
    (.slice (some ⟨w.heap.size,0,none⟩) (n+m) (grownCap w (n+m) old e)) (n+m) (xs++news):=by
  intro old ho;have hge:=grownCap_ge w (n+m) old e;have hcm:grownCap w (n+m) old e≤maxLen:=grownCap_le_maxLen w (n+m) old e h63;refine⟨hlen,.inr ⟨w.heap.size,_,_,rfl,Nat.zero_le _,heap_alloc_new w.drew _,hge,hcm,?_,?_⟩⟩
  ·simp only[Array.size_append,List.size_toArray,size_zeroCells,hzs,hown.1,hl,←Nat.add_mul];congr 1;omega
  ·simp only[Array.toList_append,List.append_assoc];rw[←List.append_assoc,←hlen];exact List.take_left
 rcases hown.2 with⟨rfl,rfl⟩|⟨g,cap,cur,rfl,hbg,hg,hnc,hcm,hcs,htake⟩
 ·have hx:xs=[]:=List.eq_nil_of_length_eq_zero (by simpa using hown.1);subst hx;have hr:=run_append_nil (P:=P) w t ty e i z ht hi hz a m c news hl hnews (by omega) (by omega) (by have hb:=hbytes;simp only[Nat.zero_add]at hb;omega);have hgr:=grown 0 (by omega);simp only[Nat.zero_add,List.nil_append,Array.empty_append]at hgr⊢;exact⟨_,_,hr,rfl,hgr,rfl,rfl,rfl,alloc_le w.drew _,.inr ⟨rfl,fun k hk=>heap_alloc_old w.drew _ k hk⟩⟩
 ·by_cases hroom:n+m≤cap
  ·have hfit:n * i.size+news.length≤cur.size:=by rw[hl,hcs,←Nat.add_mul];exact Nat.mul_le_mul_right _ hroom
   have hr:=run_append_room (P:=P) w t ty e i ht hi g n cap cur hg a m c news hl hnews h1 hroom hfit;refine⟨_,_,hr,rfl,⟨hlen,.inr ⟨g,cap,_,rfl,hbg,setRow_heap w g cur _ e _ hg,hroom,hcm,?_,?_⟩⟩,rfl,rfl,rfl,by simp[World.setRow],.inl ⟨g,rfl,rfl,fun k hk=>setRow_other w g k _ hk⟩⟩
   ·simp only[List.size_toArray,List.length_append,List.length_take,List.length_drop,Array.length_toList];omega
   ·rw[htake,←hlen];exact List.take_left
  ·have holds:∀j u,xs[j]?=some u→w.cell? ((⟨g,0,none⟩:Addr).add j)=some u:=hown.cells (g:=g) rfl;have hr:=run_append_grow (P:=P) w t ty e i z ht hi hz ⟨g,0,none⟩ n cap xs hown.1 holds a m c news hl hnews (by omega) (by omega) (growslice_fits (by omega) hbytes);exact⟨_,_,hr,rfl,grown cap (by omega),rfl,rfl,rfl,alloc_le w.drew _,.inr ⟨rfl,fun k hk=>heap_alloc_old w.drew _ k hk⟩⟩
theorem append_zero{P:Program}{w:World}(t ty e:TypeId)(i:TypeInfo)(ht:P.underlying t=some (.slice e))(hi:P.info? e=some i)(v:Value)(n:Nat)(xs:List Value)(hown:w.ownsRow 0 e i.size v n xs)
  (ad:Option Addr) (c:Nat):(Builtin.append_ #[t,t] ty #[v,.slice ad 0 c]).run P w=.ok v w:=by
 have hfc:(Builtin.firstCells i.size 0 (.slice ad 0 c)).run P w=.ok #[] w:=by
  cases ad<;>simp[Builtin.firstCells,loadCells,loadCellsFrom]
 rcases hown.2 with⟨rfl,rfl⟩|⟨g,cap,cur,rfl,hbg,hg,hnc,hcm,hcs,htake⟩
 ·simp[Builtin.append_,run_underlying ht,sizeOf,typeInfo,hi,Builtin.lenOf,hfc]
 ·simp[Builtin.append_,run_underlying ht,sizeOf,typeInfo,hi,Builtin.lenOf,hfc,hnc,storeCells]
def Ctx.addSl(c:Ctx)(i n:Nat)(v:Value):Ctx:={ c with sl:=fun i' n'=>if i'=i∧n'=n then some v else c.sl i' n' }
theorem Ctx.addSl_le{c:Ctx}{i n:Nat}{v:Value}(h:c.sl i n=none):c.le (c.addSl i n v) :=
 ⟨fun _ _ _ h=>h,fun _ _ h=>h,fun i' n' u hu=>by
  simp only[Ctx.addSl];split
  ·rename_i he;rw[he.1,he.2,h]at hu;cases hu
  ·exact hu⟩
theorem DRel.flat{D:Nat→Nat→Option Value}{rows:List (List AV)}{vs:List Value}{sz:Nat}(h:∀(i j:Nat) (r:List AV) (x:AV),rows[i]?=some r→r[j]?=some x→∃u,vs[i * sz+j]?=some u∧DRel D x u)
  {news:List (List AV)} {us:List Value} (hl:vs.length=rows.length * sz) (k:∀(i j:Nat) (r:List AV) (x:AV),news[i]?=some r→r[j]?=some x→∃u,us[i * sz+j]?=some u∧DRel D x u) :
  ∀(i j:Nat) (r:List AV) (x:AV),(rows++news)[i]?=some r→r[j]?=some x→∃u,(vs++us)[i * sz+j]?=some u∧DRel D x u:=by
 intro i j r x hr hx;by_cases hi:i<rows.length
 ·rw[List.getElem?_append_left hi]at hr;obtain⟨u,hu,hd⟩:=h i j r x hr hx;have hlt:i * sz+j<vs.length:=(List.getElem?_eq_some_iff.1 hu).1;exact⟨u,by rw[List.getElem?_append_left hlt];exact hu,hd⟩
 ·rw[List.getElem?_append_right (by omega)]at hr;obtain⟨u,hu,hd⟩:=k _ j r x hr hx;have he:i * sz+j=vs.length+((i - rows.length) * sz+j):=by
   rw[hl,Nat.sub_mul];have:rows.length * sz≤i * sz:=Nat.mul_le_mul_right _ (by omega);omega
  refine⟨u,?_,hd⟩;rw[he,List.getElem?_append_right (by omega)];rw[show vs.length+((i - rows.length) * sz+j) - vs.length=(i - rows.length) * sz+j from by omega];exact hu
end Go.Abs

namespace Go.Abs
theorem arr_nil{E:Ent}{c:Ctx}{h:qab}{w:World}(s:HSim c h w)(k:E.ok c h w)(e:TypeId)(sz:Nat) :
  HSim (c.addSl h.length 0 (.slice none 0 0)) (h++[.arr e sz []]) w∧E.ok (c.addSl h.length 0 (.slice none 0 0)) (h++[.arr e sz []]) w:=by
 have hle:c.le (c.addSl h.length 0 (.slice none 0 0)):=Ctx.addSl_le ((s.dom _ (Nat.le_refl _)).2 0);have hsl:∀i,i<h.length→∀m,(c.addSl h.length 0 (.slice none 0 0)).sl i m=c.sl i m:=fun i hi m=>by
  simp only[Ctx.addSl];rw[if_neg (by omega)]
 have hlt:∀{i:Nat} {o:AObj},h[i]?=some o→i<h.length:=fun hi=>(List.getElem?_eq_some_iff.1 hi).1;have hnew:qag (c.addSl h.length 0 (.slice none 0 0)) h.length (.arr e sz [])=none:=by simp[qag,Ctx.addSl,Value.ownBlock]
 refine⟨⟨s.data,fun i hi=>?_,fun i o hi=>?_,fun i j o o' b hi hj hb hb'=>?_,fun i o b j v hi hb hD=>?_⟩,⟨k.edom,k.ext.trans hle,k.blk0,by have:=k.len;simp;omega,k.os,k.tape,k.output,k.size,k.frame,fun i o b hi hb=>?_,k.dold⟩⟩
 ·simp only[List.length_append,List.length_cons,List.length_nil]at hi;have:=s.dom i (by omega);refine⟨this.1,fun m=>?_⟩;simp only[Ctx.addSl];rw[if_neg (by omega)];exact this.2 m
 ·rcases qav hi with h1|⟨rfl,rfl⟩
  ·exact(s.obj i o h1).keep hle (hsl i (hlt h1)) fun _ _=>rfl
  ·refine⟨.slice none 0 0,[],by simp[Ctx.addSl],rfl,fun m hm=>?_,World.ownsRow_nil w 0 e sz,by simp,by simp,by simp,fun b j hb=>by cases hb⟩;simp only[Ctx.addSl];rw[if_neg (by simp at hm;omega)];exact(s.dom _ (Nat.le_refl _)).2 m
 ·rcases qav hi with h1|⟨rfl,rfl⟩<;>rcases qav hj with h2|⟨rfl,rfl⟩
  ·rw[(s.obj i o h1).blk hle]at hb;rw[(s.obj j o' h2).blk hle]at hb';exact s.apart i j o o' b h1 h2 hb hb'
  ·rw[hnew]at hb';cases hb'
  ·rw[hnew]at hb;cases hb
  ·rfl
 ·rcases qav hi with h1|⟨rfl,rfl⟩
  ·rw[(s.obj i o h1).blk hle]at hb;exact s.sep i o b j v h1 hb hD
  ·rw[hnew]at hb;cases hb
 ·rcases qav hi with h1|⟨rfl,rfl⟩
  ·rw[(s.obj i o h1).blk hle]at hb;exact k.newobj i o b h1 hb
  ·rw[hnew]at hb;cases hb
theorem arr_grow{E:Ent}{c:Ctx}{h:qab}{w w':World}(s:HSim c h w)(k:E.ok c h w){i e sz m:Nat}{rows news:List (List AV)}{v v':Value}{us:List Value}(hi:h[i]?=some (.arr e sz rows))
  (hv:c.sl i rows.length=some v) (hnl:news.length=m) (hm:0<m) (hlen:rows.length+m≤68719476736) (hrow:∀r,r∈news→r.length=sz)
  (hus:∀(i' j:Nat) (r:List AV) (x:AV),news[i']?=some r→r[j]?=some x→∃u,us[i' * sz+j]?=some u∧DRel c.D x u) (ho:v'.oneCell'=true)
  (hown:∀xs,w.ownsRow 0 e sz v rows.length xs→w'.ownsRow 0 e sz v' (rows.length+m) (xs++us)) (hos:w'.os=w.os) (ht:w'.tape=w.tape) (hou:w'.output=w.output) (hs:w.heap.size≤w'.heap.size)
  (htwo:(∃g,v.ownBlock=some g∧v'.ownBlock=some g∧∀k,k≠g→w'.heap[k]?=w.heap[k]?)∨(v'.ownBlock=some w.heap.size∧∀k,k<w.heap.size→w'.heap[k]?=w.heap[k]?)) :
  ∃c',c.le c'∧HSim c' (h.set i (.arr e sz (rows++news))) w'∧E.ok c' (h.set i (.arr e sz (rows++news))) w'∧Rel c' (.own i (rows.length+m)) v':=by
 obtain⟨v0,vs,h1,_,hmax,h2,h3,h4,h5,h6⟩:=s.obj i _ hi;rw[hv]at h1;cases h1;have hown':=hown vs h2;have hnone:c.sl i (rows.length+m)=none:=hmax _ (by omega);have hle0:c.le (c.addSl i (rows.length+m) v'):=Ctx.addSl_le hnone;have hbold:qag c i (.arr e sz rows)=v.ownBlock:=by simp only[qag,hv,Option.bind_some]
 -- what is known of the new block's cells,as data
 let L:=vs++us
 have hL:L.length=(rows.length+m) * sz:=hown'.1;have hcellL:∀g j u,v'.ownBlock=some g→L[j]?=some u→w'.cell? ⟨g,j,none⟩=some u:=fun g j u hg hu=>by
  have:=hown'.cells hg j u hu
  rwa [qdv,Nat.zero_add]at this
 have hjl:∀b j u,c.D b j=some u→v'.ownBlock=some b→j<rows.length * sz∧L[j]?=some u:=fun b j u hD hg'=>by
  rcases htwo with⟨g,hg,hg2,hk⟩|⟨hg2,hk⟩
  ·rw[hg2]at hg';cases hg';have hj:j<rows.length * sz:=s.sep i _ b j u hi (by rw[hbold,hg]) hD;have hjl:j<vs.length:=by rw[h2.1];exact hj
   have c1:=h2.cells hg j vs[j] (by simp[hjl]);rw[qdv,Nat.zero_add,s.data b j u hD]at c1;refine⟨hj,?_⟩;show(vs++us)[j]?=some u;rw[List.getElem?_append_left hjl,List.getElem?_eq_getElem hjl,←c1]
  ·rw[hg2]at hg';cases hg';rw[s.noD (Nat.le_refl _)]at hD;cases hD
 let c':Ctx:={ c.addSl i (rows.length+m) v' with D:=fun b j=>if v'.ownBlock=some b∧j<L.length then L[j]? else c.D b j }
 have hDle:∀b j u,c.D b j=some u→c'.D b j=some u:=fun b j u hD=>by
  simp only[c'];split
  ·rename_i hh;exact(hjl b j u hD hh.1).2
  ·exact hD
 have hle:c.le c':=⟨hDle,fun _ _ h=>h,hle0.sl⟩
 have hDnew:∀b j u,c'.D b j=some u→(v'.ownBlock=some b∧j<L.length∧L[j]?=some u)∨(v'.ownBlock≠some b∧c.D b j=some u):=fun b j u hD=>by
  simp only[c']at hD;split at hD
  ·rename_i hh;exact .inl ⟨hh.1,hh.2,hD⟩
  ·rename_i hh;by_cases hb:v'.ownBlock=some b
   ·have h7:=hjl b j u hD hb;exact .inl ⟨hb,(List.getElem?_eq_some_iff.1 h7.2).1,h7.2⟩
   ·exact .inr ⟨hb,hD⟩
 have hsl:∀j,j≠i→∀m',c'.sl j m'=c.sl j m':=fun j hj m'=>by
  simp only[c',Ctx.addSl];rw[if_neg (by intro h;exact hj h.1)]
 have hlen':(rows++news).length=rows.length+m:=by simp[hnl]
 have hslv:c'.sl i (rows++news).length=some v':=by simp[c',Ctx.addSl,hlen']
 have hbnew:qag c' i (.arr e sz (rows++news))=v'.ownBlock:=by simp only[qag,hslv,Option.bind_some]
 have hile:i<h.length:=(List.getElem?_eq_some_iff.1 hi).1
 -- a block of another object stands
 have hoth:∀j o b,j≠i→h[j]?=some o→qag c j o=some b→w'.heap[b]?=w.heap[b]?:=fun j o b hj hjo hb=>by
  rcases htwo with⟨g,hg,hg',hk⟩|⟨hg',hk⟩
  ·refine hk b fun e=>hj ?_;subst e;exact s.apart j i o _ b hjo hi hb (by rw[hbold,hg])
  ·exact hk b ((s.obj j o hjo).lt hb)
 -- the new block of object i,and the others
 have hfresh:∀j o b,j≠i→h[j]?=some o→qag c j o=some b→v'.ownBlock≠some b:=fun j o b hj hjo hb hv'=>by
  rcases htwo with⟨g,hg,hg',hk⟩|⟨hg',hk⟩
  ·rw[hg']at hv';cases hv';exact hj (s.apart j i o _ _ hjo hi hb (by rw[hbold,hg]))
  ·rw[hg']at hv';cases hv';have:=(s.obj j o hjo).lt hb;omega
 have hnewblk:∀b,v'.ownBlock=some b→(∃o0,E.h[i]?=some o0∧qag E.c i o0=some b)∨E.w.heap.size≤b:=fun b hb=>by
  rcases htwo with⟨g,hg,hg',hk⟩|⟨hg',hk⟩
  ·rw[hg']at hb;cases hb;exact k.newobj i _ _ hi (by rw[hbold,hg])
  ·rw[hg']at hb;cases hb;exact .inr k.size
 refine⟨c',hle,⟨fun b j u hD=>?_,fun j hj=>?_,fun j o hj=>?_,fun j j' o o' b hj hj' hb hb'=>?_,fun j o b n u hj hb hD=>?_⟩,⟨k.edom,k.ext.trans hle,k.blk0,by simpa using k.len,hos.trans k.os,ht.trans k.tape,hou.trans k.output,Nat.le_trans k.size hs,fun b hb hno=>?_,fun j o b hj hb=>?_,fun b j u hD=>?_⟩,
  .own i _ v' (by simp[c',Ctx.addSl]) ho⟩
 ·rcases hDnew b j u hD with⟨hg,_,hu⟩|⟨hg,hD'⟩
  ·exact hcellL b j u hg hu
  ·have hcell:=s.data b j u hD';rcases htwo with⟨g,hg1,hg',hk⟩|⟨hg',hk⟩
   ·rw[World.cell?_of_block (w:=w) (hk b (fun e=>hg (by rw[hg',e])))];exact hcell
   ·have hb:b<w.heap.size:=World.block_lt_of_cell? w ⟨b,j,none⟩ hcell;rw[World.cell?_of_block (w:=w) (hk b hb)];exact hcell
 ·have hj':h.length≤j:=by simpa using hj
  have:=s.dom j hj';exact⟨this.1,fun m'=>by rw[hsl j (by omega)];exact this.2 m'⟩
 ·rcases qad hj with⟨rfl,rfl⟩|⟨hne,hjo⟩
  ·refine⟨v',vs++us,hslv,ho,fun m' hm'=>?_,by rw[hlen'];exact hown',by omega,fun r hr=>?_,fun i' j' r x hr hx=>?_,fun b n hb hn=>?_⟩
   ·simp only[c',Ctx.addSl];rw[if_neg (by omega)];exact hmax m' (by omega)
   ·rcases List.mem_append.1 hr with hr|hr
    ·exact h4 r hr
    ·exact hrow r hr
   ·obtain⟨u,hu,hd⟩:=DRel.flat h5 h2.1 hus i' j' r x hr hx;exact⟨u,hu,hd.mono hDle⟩
   ·rw[hlen',←hL]at hn;refine⟨L[n],?_⟩;simp only[c',if_pos (show v'.ownBlock=some b∧n<L.length from⟨hb,hn⟩)];exact List.getElem?_eq_getElem hn
  ·exact(s.obj j o hjo).keep hle (hsl j hne) fun b hb=>hoth j o b hne hjo hb
 ·rcases qad hj with⟨rfl,rfl⟩|⟨hne,hjo⟩<;>rcases qad hj' with⟨h8,h7⟩|⟨hne',hjo'⟩
  ·exact h8.symm
  ·rw[hbnew]at hb;rw[(s.obj j' o' hjo').blk hle]at hb';exact(hfresh j' o' b hne' hjo' hb' hb).elim
  ·subst h8;subst h7;rw[hbnew]at hb';rw[(s.obj j o hjo).blk hle]at hb;exact(hfresh j o b hne hjo hb hb').elim
  ·rw[(s.obj j o hjo).blk hle]at hb;rw[(s.obj j' o' hjo').blk hle]at hb';exact s.apart j j' o o' b hjo hjo' hb hb'
 ·rcases qad hj with⟨rfl,rfl⟩|⟨hne,hjo⟩
  ·rw[hbnew]at hb;simp only[AObj.shares,hlen'];rcases hDnew b n u hD with⟨_,hn,_⟩|⟨hg,_⟩
   ·rw[←hL];exact hn
   ·exact(hg hb).elim
  ·rw[(s.obj j o hjo).blk hle]at hb;rcases hDnew b n u hD with⟨hg,_⟩|⟨_,hD'⟩
   ·exact(hfresh j o b hne hjo hb hg).elim
   ·exact s.sep j o b n u hjo hb hD'
 ·have hne:∀g,v.ownBlock=some g→b≠g:=fun g hg e=>by
   subst e;rcases k.newobj i _ b hi (by rw[hbold,hg])with⟨o0,h0,h1⟩|h2
   ·exact hno i o0 h0 h1
   ·omega
  rcases htwo with⟨g,hg,hg',hk⟩|⟨hg',hk⟩
  ·rw[hk b (hne g hg)];exact k.frame b hb hno
  ·rw[hk b (Nat.lt_of_lt_of_le hb k.size)];exact k.frame b hb hno
 ·rcases qad hj with⟨rfl,rfl⟩|⟨hne,hjo⟩
  ·rw[hbnew]at hb;exact hnewblk b hb
  ·rw[(s.obj j o hjo).blk hle]at hb;exact k.newobj j o b hjo hb
 ·rcases hDnew b j u hD with⟨hg,_⟩|⟨_,hD'⟩
  ·rcases hnewblk b hg with⟨o0,g1,g2⟩|g1
   ·exact .inr (.inr ⟨i,o0,g1,g2⟩)
   ·exact .inr (.inl g1)
  ·exact k.dold b j u hD'
theorem data_row{c:Ctx}{h:qab}{w:World}(s:HSim c h w){rows:List (List AV)}{sz:Nat}(hsz:∀r,r∈rows→r.length=sz)(h0:0<sz){u:Value}(hr:DRel c.D (.slice rows) u) :
  ∃ad cap,u=.slice ad rows.length cap∧(rows=[]∨∃b off,ad=some ⟨b,off,none⟩∧∃us:List Value,us.length=rows.length * sz∧(∀j v,us[j]?=some v→w.cell? ⟨b,off+j,none⟩=some v)∧(∀v,v∈us→v.oneCell'=true) ∧
   ∀(i j:Nat) (r:List AV) (x:AV),rows[i]?=some r→r[j]?=some x→∃v,us[i * sz+j]?=some v∧DRel c.D x v):=by
 cases hr with
 |nil=>exact⟨none,0,rfl,.inl rfl⟩
 |empty a=>exact⟨some a,0,rfl,.inl rfl⟩
 |slice rows b off cap sz' g hsz' hB hc hD hh =>
  refine⟨_,cap,rfl,?_⟩;by_cases he:rows=[]
  ·exact .inl he
  ·refine .inr ⟨b,off,rfl,?_⟩;have hpos:0<rows.length:=by cases rows with|nil=>exact(he rfl).elim|cons=>simp
   have:sz'=sz:=by rw[←hsz' rows[0] (by simp),hsz rows[0] (by simp)]
   subst this;obtain⟨us,hl,hp⟩:=choose_list (fun k v=>w.cell? ⟨b,off+k,none⟩=some v∧v.oneCell'=true∧∀r x,rows[k / sz']?=some r→r[k % sz']?=some x→DRel c.D x v) (rows.length * sz') (fun k hk=>by
    have hq:k / sz'<rows.length:=Nat.div_lt_of_lt_mul (by rw[Nat.mul_comm];exact hk);have hrow:rows[k / sz'].length=sz':=hsz' _ (by simp);have hm:k % sz'<rows[k / sz'].length:=by rw[hrow];exact Nat.mod_lt _ h0
    have e1:rows[k / sz']?=some rows[k / sz']:=by simp[hq]
    have e2:rows[k / sz'][k % sz']?=some rows[k / sz'][k % sz']:=by simp[hm]
    have hd:=hD _ _ _ _ e1 e2;have hrel:=hh _ _ _ _ e1 e2;have hk':off+k / sz' * sz'+k % sz'=off+k:=by
     have:=Nat.div_add_mod k sz';rw[Nat.mul_comm]at this;omega
    rw[hk']at hd;refine⟨_,s.data _ _ _ hd,hrel.one,fun r x hr hx=>?_⟩;rw[e1]at hr;cases hr;rw[e2]at hx;cases hx;exact hrel)
   refine⟨us,hl,fun j v hv=>(hp j v hv).1,fun v hv=>?_,fun i j r x hr hx=>?_⟩
   ·obtain⟨j,hj⟩:=List.getElem?_of_mem hv;exact(hp j v hj).2.1
   ·have hj:j<sz':=by rw[←hsz' r (List.mem_of_getElem? hr)];exact(List.getElem?_eq_some_iff.1 hx).1
    have hi:i<rows.length:=(List.getElem?_eq_some_iff.1 hr).1;have hlt:i * sz'+j<us.length:=by
     have:(i+1) * sz'≤rows.length * sz':=Nat.mul_le_mul_right _ hi;rw[Nat.add_mul]at this;omega
    refine⟨us[i * sz'+j],by simp[hlt],(hp (i * sz'+j) _ (by simp[hlt])).2.2 r x ?_ ?_⟩
    ·rw[Nat.mul_comm,Nat.mul_add_div h0,Nat.div_eq_of_lt hj,Nat.add_zero];exact hr
    ·rw[Nat.mul_comm,Nat.mul_add_mod,Nat.mod_eq_of_lt hj];exact hx
end Go.Abs
