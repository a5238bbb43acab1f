/- Part 6 of a proof. -/
import Derived.Test.YtolejdhnnchfpaaGreatDoorQ05
set_option linter.all false
namespace Go.Abs
def AV.strip:AV->AV
 | .opt _ v=>v
 |v=>v
def AV.has(G:Bool):AV->Prop
 | .opt g _=>G=true->g=true
 |_=>True
def Env.getS(e:Env)(x:Operand):AV:=(e.get x).strip
def me(e:Env)(G:Bool):List Operand->Prop
 | []=>True
 |x::l=>(e.get x).has G/\me e G l
theorem xc0{e:Env}{G:Bool}:∀{l:List Operand},me e G l->∀x,x∈l->(e.get x).has G
 | [],_,x,hx=>by cases hx
 |y::l,h,x,hx=>by
  cases hx with
  |head=>exact h.1
  |tail _ hx=>exact xc0 h.2 x hx
theorem qym{c:Ctx}{x:AV}{v:Value}(h:Rel c x v)(hh:x.has true):Rel c x.strip v:=by
 cases x with
 |opt g y =>
  cases h with
  |data h=>cases h
  |opt g x v h hn=>exact h (hh rfl)
 |_=>exact h
def gB(ds:List (Option Tmp))(e:Env):Option (Nat×Bool)->Option Bool
 |none=>some true
 |some (j,want) =>
  match ds[j]? with
  |some (some t)=>match ji e.t t with
   | .val (.bool b)=>some (b == want)
   | .opt g (.val (.bool b))=>some (g&&(b == want))
   | .opt false _=>some false
   |_=>none
  |_=>none
def zj(N:Nat):Option Tmp->Prop
 |none=>True
 |some d=>d<N
def qb(g:Option (Nat×Bool))(G:Bool)(v:AV):AV :=
 match g with
 |none=>v
 |some _=>.opt G v
def qli(x y z:AV):AV :=
 match x.strip with
 | .val (.bool b)=>match y.strip,z.strip with
  | .val (.bool p),.val (.bool q)=>.val (.bool (bif b then p else q))
  |y',z'=>bif b then y' else z'
 |_=>.top
def qyn(G:Bool)(x y z:AV):Prop :=
 G=true->match x.strip with
  | .val (.bool b)=>x.has true/\(b=true->y.has true)/\(b=false->z.has true)
  |_=>False
def AV.isIface:AV->Bool
 | .iface _ _=>true
 |_=>false
def AV.isInt:AV->Bool
 | .val (.int _ _)=>true
 |_=>false
def AV.isData:AV->Bool
 | .val v=>v.oneCell'
 | .slice _=>true
 |_=>false
def qpj(h:g9)(sz:Nat):Nat->List (Nat×AV)->Option (List (List AV))
 |_,[]=>some []
 |k,(i,x)::l =>
  if i=k/\x.cellsOk=true/\x.cells.length=sz/\(ko h x.cells).all AV.isData=true then(qpj h sz (k+1) l).map ((ko h x.cells)::·)else none
def qxw(sz:Nat):Nat->List (Nat×AV)->Option (List AV)
 | 1,[(0,x)]=>if x.cellsOk=true/\x.cells.length=sz then some x.cells else none
 |_,_=>none
def qyw(h:g9):AV->Option (List (List AV))
 | .slice rows=>some rows
 | .nils=>some []
 | .own i n=>match h[i]? with
  |some (.arr _ _ rows)=>if rows.length=n then some rows else none
  |_=>none
 |_=>none
def jq(P:Program)(t:TypeId):Nat:=match ti P t with|some x=>x.bytes|none=>0
def qsh(P:Program)(T:TypeId)(s x:AV)(h:g9)(K:AV->g9->Prop):Prop :=
 match im P T,qyw h x with
 | .slice e sz,some news =>
  RowsLen sz news/\0<sz/\jq P e<=2048/\jd P e=sz/\im P e≠.other /\
  match s with
  | .nils=>news.length<=68719476736/\K (.own h.length news.length) (h++[.arr e sz news])
  | .cap rows=>RowsLen sz rows/\0<news.length/\rows.length+news.length<=68719476736/\K (.slice (rows++news)) h
  | .own i n=>match h[i]? with
   |some (.arr e' ky rows)=>e'=e/\ky=sz/\rows.length=n/\rows.length+news.length<=68719476736/\K (.own i (n+news.length)) (h.set i (.arr e sz (rows++news)))
   |some (.uarr e' ky rows)=>e'=e/\ky=sz/\rows.length=n/\rows.length+news.length<=68719476736/\K (.own i (n+news.length)) (h.set i (.uarr e sz (rows++news)))
   |_=>False
  |_=>False
 |_,_=>False
def qvi(P:Program)(T:TypeId)(s x:AV)(h:g9)(K:AV->g9->Prop):Prop :=
 match x with
 | .lit cells =>
  match im P T,s with
  | .slice e sz,.own i n=>match h[i]? with
   |some (.oarr e' ky rows)=>cells.length=sz/\0<sz/\jq P e<=2048/\jd P e=sz/\im P e≠.other/\e'=e/\ky=sz/\rows.length=n/\rows.length+1<=68719476736/\K (.own i (n+1)) (h.set i (.oarr e sz (rows++[cells])))
   |_=>False
  |_,_=>False
 |x=>qsh P T s x h K
def qy(P:Program)(e:Env):Op->(AV->g9->Prop)->(AV->g9->Prop)->Prop
 | .box _ x,K,_=>me e true [x]/\(e.getS x).cellsOk=true/\K (.ptr e.h.length 0) (e.h++[.cells (e.getS x).cells])
 | .alloc T,K,_=>im P T≠.other/\K (.ptr e.h.length 0) (e.h++[.cells (jh P T)])
 | .store T a x,K,_ =>
  me e true [a,x] /\
  match e.getS a with
  | .ptr i off=>match e.h[i]? with
   |some (.cells xs)=>(e.getS x).cellsOk=true/\(e.getS x).cells.length=jd P T/\im P T≠.other/\off+(e.getS x).cells.length<=xs.length /\
     K .top (e.h.set i (.cells (xs.take off++(e.getS x).cells++xs.drop (off+(e.getS x).cells.length))))
   |_=>False
  | .optr i n sz r q=>match e.h[i]? with
   |some (.uarr t ky rows)=>rows.length=n/\ky=sz/\r<rows.length/\(e.getS x).cellsOk=true/\(ko e.h (e.getS x).cells).all AV.isData=true/\(e.getS x).cells.length=jd P T/\im P T≠.other/\q+(e.getS x).cells.length<=sz /\
     K .top (e.h.set i (.uarr t sz (rows.set r ((rows.getD r []).take q++ko e.h (e.getS x).cells++(rows.getD r []).drop (q+(e.getS x).cells.length)))))
   |some (.oarr t ky rows)=>rows.length=n/\ky=sz/\r<rows.length/\(e.getS x).cellsOk=true/\(e.getS x).cells.length=jd P T/\im P T≠.other/\q+(e.getS x).cells.length<=sz /\
     K .top (e.h.set i (.oarr t sz (rows.set r ((rows.getD r []).take q++(e.getS x).cells++(rows.getD r []).drop (q+(e.getS x).cells.length)))))
   |_=>False
  |_=>False
 | .buildSlice T n parts,K,_ =>
  match im P T with
  | .slice el sz=>match qpj e.h sz 0 (parts.toList.map λp=>(p.1,e.getS p.2))with
   |some rows=>me e true (parts.toList.map (·.2))/\rows.length=n/\0<sz/\n * sz<=16777216/\im P el≠.other/\jd P el=sz/\K (.slice rows) e.h
   |none=>match qxw sz n (parts.toList.map λp=>(p.1,e.getS p.2))with
    |some cs=>me e true (parts.toList.map (·.2))/\0<sz/\sz<=16777216/\im P el≠.other/\jd P el=sz/\K (.lit cs) e.h
    |none=>False
  |_=>False
 | .call { callee:=.value f,args,.. },K,Kp =>
  me e true (f::args.toList) /\
  match e.getS f with
  | .fn (.func fid) first caps=>ACalls P fid (ko e.h (first++args.toList.map e.getS++caps)) e.h λr h'=>match r with
   | .ret v=>K v h'
   | .panic v=>Kp v h'
  |_=>False
 | .call { callee:=.builtin .append,args,argTypes },K,_ =>
  match args.toList,argTypes.toList with
  | [s,x],[T,T']=>me e true [s,x]/\T'=T/\qvi P T (e.getS s) (e.getS x) e.h K
  |_,_=>False
 | .range T x,K,_ =>
  me e true [x] /\
  match im P T,e.getS x with
  | .string,.val (.string s)=>K (.ptr e.h.length 0) (e.h++[.iter s 0])
  |_,_=>False
 | .next x true,K,_ =>
  me e true [x] /\
  match e.getS x with
  | .ptr i 0=>match e.h[i]? with
   |some (.iter s p) =>
    if p<s.size then K (.tuple [.val (.bool true),.val (.int .i64 p),.val (.int .i32 (Utf8.decode s p).1)]) (e.h.set i (.iter s (p+(Utf8.decode s p).2)))
    else K (.tuple [.val (.bool false)]) e.h
   |_=>False
  |_=>False
 | .panic x,_,Kp=>me e true [x]/\(e.getS x).isIface=true/\Kp (e.getS x) e.h
 | .makeMap T r,K,_ =>
  match im P T with
  | .map _ _=>(match r with|none=>True|some x=>me e true [x]/\(e.getS x).isInt=true)/\K (.mapr e.h.length) (e.h++[.map []])
  |_=>False
 | .mapUpdate T m key x,K,_ =>
  me e true [m,key,x] /\
  match im P T,e.getS m,e.getS key with
  | .map kt _,.mapr i,.val (.string s)=>match e.h[i]? with
   |some (.map es)=>match strKeys es with
    |some l=>im P kt=.string/\K .top (e.h.set i (.map (ra (qsi l s (e.getS x)))))
    |none=>False
   |_=>False
  |_,_,_=>False
 | .call { callee:=.builtin .delete,args,argTypes },K,_ =>
  match args.toList,argTypes.toList with
  | [m,key],[T,_]=>me e true [m,key] /\
   match im P T,e.getS m,e.getS key with
   | .map kt _,.mapr i,.val (.string s)=>match e.h[i]? with
    |some (.map es)=>match strKeys es with
     |some l=>im P kt=.string/\K (.tuple []) (e.h.set i (.map (ra (quw l s))))
     |none=>False
    |_=>False
   |_,_,_=>False
  |_,_=>False
 |_,_,_=>False
def u9:Op->Bool
 | .box .. | .alloc _| .panic _| .range .. | .next _ true| .store .. | .buildSlice .. | .makeMap .. | .mapUpdate .. | .call { callee:=.value _,.. } | .call { callee:=.builtin .append,.. } | .call { callee:=.builtin .delete,.. }=>true
 |_=>false
@[reducible] def xmf(P:Program)(fid:FuncId)(G:Bool)(pre:Prop)(args:List AV)(h:g9)(K:AV->Prop)(KE:AEnd->g9->Prop):Prop :=
 (∃r,(G=true->pre/\APure P fid args r)/\K r)\/(G=true/\pre/\ACalls P fid args h KE)
def s7(P:Program)(N:Nat)(Q:AExit->Env->Prop)(ds:List (Option Tmp))(o:Oper)(e:Env)(K:Env->Prop):Prop :=
 match gB ds e o.guard with
 |none=>False
 |some G =>
  zj N o.dst /\
  match o.op with
  | .pick x y z=>qyn G (e.get x) (e.get y) (e.get z)/\K (e.put o.dst (qb o.guard G (qli (e.get x) (e.get y) (e.get z))))
  |op =>
   match u9 op,o.guard with
   |false,g=>(G=true->me e true op.operands.toList/\(qg P e.getS e.h op).side)/\K (e.put o.dst (qb g G (qg P e.getS e.h op).val))
   |true,none=>qy P e op (λv h'=>K (({ e with h:=h' }:Env).put o.dst v)) (λv h'=>Q (.panic v) { e with h:=h' })
   |true,some _=>match op with
    | .call { callee:=.value f,args,.. }=>match e.getS f with
     | .fn (.func fid) first caps=>xmf P fid G (me e true (f::args.toList)) (ko e.h (first++args.toList.map e.getS++caps)) e.h (λr=>K (e.put o.dst (.opt G r))) λr h'=>match r with
        | .ret v=>K (({ e with h:=h' }:Env).put o.dst (.opt true v))
        | .panic v=>Q (.panic v) { e with h:=h' }
     |_=>False
    |_=>False
def qnl(P:Program)(N:Nat)(Q:AExit->Env->Prop):List (Option Tmp)->List Oper->Env->Prop
 |_,[],e=>Q .normal e
 |ds,o::l,e=>s7 P N Q ds o e (qnl P N Q (ds++[o.dst]) l)
section
variable {P:Program} {E:Ent}
theorem qx1{ops:Array Oper}{done:List Oper}{rest:List Oper}(vn:ops.toList=done++rest){N:Nat}{c:Ctx}{e:Env}{a:Act}{w:World}(s:Sim N c e a w){o:Oper}{G:Bool}
  (h:gB (done.map (·.dst)) e o.guard=some G):Region.wanted o (yielded ops a.tmps)=G:=by
 unfold gB at h;unfold Region.wanted;split at h
 .grind
 .rename_i j want hg;simp only[hg];split at h
  .rename_i t ht;have hj:(ops[j]?).bind (·.dst)=some t:=by
    simp only[di,db]at ht;obtain⟨o',kc,hd⟩:=ht;have:ops[j]?=some o':=by
     have h1:ops.toList[j]?=some o':=af;simpa using h1
    simp[this,hd]
   have hr:=s.tmps t;have hy:∀b,a.tmps.getD t undef=.bool b->yielded ops a.tmps j=some b:=λb hb=>by
    unfold yielded;rw[hj];simp only[fp];simp only[dz]at hb;cases ht':a.tmps[t]? with
    |none=>rw[ht']at hb;simp[undef]at hb
    |some v=>rw[ht']at hb;simp at hb;subst hb;rfl
   split at h
   .rename_i b hb;rw[hb]at hr;rw[hy b hr.val_inv];simp only[eb]at h;rw[<-h];cases b<;>cases want<;>rfl
   .rename_i g b hb;rw[hb]at hr;simp only[eb]at h;cases g with
    |true =>
     have jf:Rel c (.val (.bool b)) (a.tmps.getD t undef):=by
      cases hr with
      |data h=>cases h
      |opt g x v h hn=>exact h rfl
     rw[hy b jf.val_inv,<-h];cases b<;>cases want<;>rfl
    |false =>
     have hu:a.tmps.getD t undef=undef:=by
      cases hr with
      |data h=>cases h
      |opt g x v h hn=>exact hn rfl
     have:yielded ops a.tmps j=none:=by
      unfold yielded;rw[hj];simp only[fp];simp only[dz]at hu;cases ht':a.tmps[t]? with
      |none=>rfl
      |some v=>rw[ht']at hu;simp at hu;subst hu;rfl
     rw[this,<-h];rfl
   .rename_i x hnb hb;rw[hb]at hr;simp only[eb]at h;have hu:a.tmps.getD t undef=undef:=by
     cases hr with
     |data h=>cases h
     |opt g x v h hn=>exact hn rfl
    have:yielded ops a.tmps j=none:=by
     unfold yielded;rw[hj];simp only[fp];simp only[dz]at hu;cases ht':a.tmps[t]? with
     |none=>rfl
     |some v=>rw[ht']at hu;simp at hu;subst hu;rfl
    rw[this,<-h];rfl
   .cases h
  .cases h
theorem qcn{ops:Array Oper}{Q:Exit->Act->World->Prop}{o:Oper}{rest:List Oper}{a:Act}{w:World}{G:Bool}(hw:Region.wanted o (yielded ops a.tmps)=G)
  (h1:G=true->o.wp P a w (wpList P ops Q rest) Q) (h2:G=false->wpList P ops Q rest (a.put o.dst undef) w):wpList P ops Q (o::rest) a w:=by
 unfold wpList;cases G with
 |true=>rw[if_pos hw];exact .inl (h1 rfl)
 |false=>rw[if_neg (by simp[hw])];exact h2 rfl
theorem vj{o:Oper}{a:Act}{w w':World}{v:Value}{K:Act->World->Prop}{Q:Exit->Act->World->Prop}(hr:(execOp a.eval o).run P w=.ok (.value v) w')(h:K (a.put o.dst v) w'):o.wp P a w K Q:=by
 unfold Oper.wp;rw[hr];exact h
theorem xaw{o:Oper}{a:Act}{w w':World}{K:Act->World->Prop}{Q:Exit->Act->World->Prop}(hr:(execOp a.eval o).run P w=.ok .skip w')(h:K (a.put o.dst undef) w'):o.wp P a w K Q:=by
 unfold Oper.wp;rw[hr];exact h
theorem qyd{N:Nat}{d:Option Tmp}(h:zj N d):∀i,d=some i->i<N:=λi hi=>by subst hi;exact h
theorem rp{N:Nat}{c:Ctx}{e:Env}{a:Act}{w:World}(s:Sim N c e a w){l:List Operand}(h:me e true l):∀x,x∈l->Rel c (e.getS x) (a.eval x) :=
 λx hx=>qym (s.eval x) (xc0 h x hx)
theorem xnp{c:Ctx}{x y z:AV}{u v v':Value}(hx:Rel c x u)(hy:Rel c y v)(hz:Rel c z v')(h:qyn true x y z):∃b,u=.bool b/\Rel c (qli x y z) (if b then v else v'):=by
 have h:=h rfl;unfold qli;have sx:=λhh=>qym hx hh;have sy:=λhh=>qym hy hh;have sz:=λhh=>qym hz hh;generalize x.strip=x' at *;generalize y.strip=y' at *;generalize z.strip=z' at *;split at h
 .rename_i b;obtain⟨h1,h2,h3⟩:=h;refine⟨b,(sx h1).val_inv,?_⟩;split
  .grind
  .grind
 .grind
end
theorem xcx{P:Program}{w:World}(t ty e:TypeId)(i:TypeInfo)(z:Value)(ht:P.underlying t=some (.slice e))(hi:P.info? e=some i)(hz:i.zero=some z)
  (p8:z.cells.size=i.size) (jx:0<i.size) (v:Value) (n:Nat) (xs:List Value) (m8:w.ownsRow 0 e i.size v n xs)
  (a:Addr) (m c:Nat) (news:List Value) (hl:news.length=m * i.size) (qpy:∀j u,news[j]?=some u->w.cell? (a.add j)=some u) (h1:∀u∈news,u.oneCell'=true) (hm:0<m)
  (h63:n+m<=maxLen) (hbytes:(n+m) * i.bytes<=140737488355328) :
  ∃v' w',(Builtin.append_ #[t,t] ty #[v,.slice (some a) m c]).run P w=.ok v' w'/\v'.oneCell'=true/\w'.ownsRow 0 e i.size v' (n+m) (xs++news)/\w'.os=w.os/\w'.tape=w.tape/\w'.output=w.output/\w.heap.size<=w'.heap.size /\
   ((∃g,v.ownBlock=some g/\v'.ownBlock=some g/\∀k,k≠g->w'.heap[k]?=w.heap[k]?)\/(v'.ownBlock=some w.heap.size/\∀k,k<w.heap.size->w'.heap[k]?=w.heap[k]?)):=by
 have hsmall:n+m<=9223372036854775807:=by simp only[maxLen]at h63;omega
 have jm:(xs++news).length=(n+m) * i.size:=by rw[c7,m8.1,hl,ee]
 have grown:∀(old:Nat),old<n+m ->
   (w.drew.alloc (.cells (xs.toArray++news.toArray++Builtin.zeroCells z.cells (grownCap w (n+m) old e - (n+m))) e)).ownsRow 0 e i.size
    (.slice (some ⟨w.heap.size,0,none⟩) (n+m) (grownCap w (n+m) old e)) (n+m) (xs++news):=by
  intro old ho;have nl:=grownCap_ge w (n+m) old e;have lw:grownCap w (n+m) old e<=maxLen:=grownCap_le_maxLen w (n+m) old e h63;refine⟨jm,.inr ⟨w.heap.size,_,_,rfl,dq _,heap_alloc_new w.drew _,nl,lw,?_,?_⟩⟩
  .simp only[Array.size_append,qjg,size_zeroCells,p8,m8.1,hl,<-ee];congr 1;omega
  .grind
 rcases m8.2 with⟨rfl,rfl⟩|⟨g,cap,cur,rfl,hbg,hg,ng,lw,md,xy⟩
 .have hx:xs=[]:=fg af;subst hx;have hr:=run_append_nil (P:=P) w t ty e i z ht hi hz a m c news hl qpy aa aa af;have hgr:=grown 0 aa;simp only[cz,ff,qjz]at hgr|-;exact⟨_,_,hr,rfl,hgr,rfl,rfl,rfl,qdy w.drew _,.inr ⟨rfl,λk hk=>heap_alloc_old w.drew _ k hk⟩⟩
 .by_cases yh:n+m<=cap
  .have qx6:n * i.size+news.length<=cur.size:=by rw[hl,md,<-ee];exact dx _ yh
   have hr:=run_append_room (P:=P) w t ty e i ht hi g n cap cur hg a m c news hl qpy h1 yh qx6;refine⟨_,_,hr,rfl,⟨jm,.inr ⟨g,cap,_,rfl,hbg,setRow_heap w g cur _ e _ hg,yh,lw,?_,?_⟩⟩,rfl,rfl,rfl,by simp[World.setRow],.inl ⟨g,rfl,rfl,λk hk=>setRow_other w g k _ hk⟩⟩
   .grind
   .grind
  .have holds:∀j u,xs[j]?=some u->w.cell? ((⟨g,0,none⟩:Addr).add j)=some u:=m8.cells (g:=g) rfl;have hr:=run_append_grow (P:=P) w t ty e i z ht hi hz ⟨g,0,none⟩ n cap xs m8.1 holds a m c news hl qpy aa aa (growslice_fits aa hbytes);exact⟨_,_,hr,rfl,grown cap aa,rfl,rfl,rfl,qdy w.drew _,.inr ⟨rfl,λk hk=>heap_alloc_old w.drew _ k hk⟩⟩
theorem xpv{P:Program}{w:World}(t ty e:TypeId)(i:TypeInfo)(ht:P.underlying t=some (.slice e))(hi:P.info? e=some i)(v:Value)(n:Nat)(xs:List Value)(m8:w.ownsRow 0 e i.size v n xs)
  (ad:Option Addr) (c:Nat):(Builtin.append_ #[t,t] ty #[v,.slice ad 0 c]).run P w=.ok v w:=by
 have hfc:(Builtin.firstCells i.size 0 (.slice ad 0 c)).run P w=.ok #[] w:=by
  cases ad<;>simp[Builtin.firstCells,loadCells,loadCellsFrom]
 rcases m8.2 with⟨rfl,rfl⟩|⟨g,cap,cur,rfl,hbg,hg,ng,lw,md,xy⟩
 .simp[Builtin.append_,run_underlying ht,sizeOf,typeInfo,hi,Builtin.lenOf,hfc]
 .simp[Builtin.append_,run_underlying ht,sizeOf,typeInfo,hi,Builtin.lenOf,hfc,ng,storeCells]
def Ctx.addSl(c:Ctx)(i n:Nat)(v:Value):Ctx:={ c with sl:=λi' n'=>if i'=i/\n'=n then some v else c.sl i' n' }
theorem Ctx.addSl_le{c:Ctx}{i n:Nat}{v:Value}(h:c.sl i n=none):c.le (c.addSl i n v) :=
 ⟨λ_ _ _ h=>h,λ_ _ h=>h,λi' n' u hu=>by
  simp only[Ctx.addSl];split
  .grind
  .exact hu⟩
theorem DRel.flat{D:Nat->Nat->Option Value}{rows:List (List AV)}{vs:List Value}{sz:Nat}(h:∀(i j:Nat) (r:List AV) (x:AV),rows[i]?=some r->r[j]?=some x->∃u,vs[i * sz+j]?=some u/\DRel D x u)
  {news:List (List AV)} {us:List Value} (hl:vs.length=rows.length * sz) (k:∀(i j:Nat) (r:List AV) (x:AV),news[i]?=some r->r[j]?=some x->∃u,us[i * sz+j]?=some u/\DRel D x u) :
  ∀(i j:Nat) (r:List AV) (x:AV),(rows++news)[i]?=some r->r[j]?=some x->∃u,(vs++us)[i * sz+j]?=some u/\DRel D x u:=by
 intro i j r x hr hx;by_cases hi:i<rows.length
 .grind
 .rw[cx aa]at hr;obtain⟨u,hu,hd⟩:=k _ j r x hr hx;have he:i * sz+j=vs.length+((i - rows.length) * sz+j):=by
   rw[hl,Nat.sub_mul];have:rows.length * sz<=i * sz:=dx _ aa;omega
  refine⟨u,?_,hd⟩;rw[he,cx aa];rw[show vs.length+((i - rows.length) * sz+j) - vs.length=(i - rows.length) * sz+j from by omega];exact hu
theorem jkq{E:Ent}{c:Ctx}{h:g9}{w:World}(s:HSim c h w)(k:E.ok c h w)(e:TypeId)(sz:Nat) :
  HSim (c.addSl h.length 0 (.slice none 0 0)) (h++[.arr e sz []]) w/\E.ok (c.addSl h.length 0 (.slice none 0 0)) (h++[.arr e sz []]) w:=by
 have ij:c.le (c.addSl h.length 0 (.slice none 0 0)):=Ctx.addSl_le ((s.dom _ (cn _)).2 0);have na:∀i,i<h.length->∀m,(c.addSl h.length 0 (.slice none 0 0)).sl i m=c.sl i m:=λi hi m=>by grind[Ctx.addSl]
 have il:∀{i:Nat} {o:AObj},h[i]?=some o->i<h.length:=λhi=>(cm.1 hi).1;have ue:je (c.addSl h.length 0 (.slice none 0 0)) h.length (.arr e sz [])=none:=qgy;refine⟨⟨s.data,λi hi=>?_,λi o hi=>?_,λi j o o' b hi hj hb iq=>?_,λi o b j v hi hb hD=>?_⟩,⟨k.edom,k.ext.trans ij,k.blk0,qe1,k.os,k.tape,k.output,k.size,k.frame,λi o b hi hb=>?_,k.dold⟩⟩
 .simp only[c7,dy,ed]at hi;have:=s.dom i aa;refine⟨this.1,λm=>?_⟩;simp only[Ctx.addSl];rw[if_neg aa];exact this.2 m
 .rcases oy hi with h1|⟨rfl,rfl⟩
  .exact(s.obj i o h1).keep ij (na i (il h1)) λ_ _=>rfl
  .refine⟨.slice none 0 0,[],bj,rfl,λm hm=>?_,World.ownsRow_nil w 0 e sz,ac,ac,ac,λb j hb=>by cases hb⟩;simp only[Ctx.addSl];rw[if_neg aa];exact(s.dom _ (cn _)).2 m
 .rcases oy hi with h1|⟨rfl,rfl⟩<;>rcases oy hj with h2|⟨rfl,rfl⟩
  .rw[(s.obj i o h1).blk ij]at hb;rw[(s.obj j o' h2).blk ij]at iq;exact s.apart i j o o' b h1 h2 hb iq
  .grind
  .grind
  .rfl
 .rcases oy hi with h1|⟨rfl,rfl⟩
  .rw[(s.obj i o h1).blk ij]at hb;exact s.sep i o b j v h1 hb hD
  .grind
 .rcases oy hi with h1|⟨rfl,rfl⟩
  .rw[(s.obj i o h1).blk ij]at hb;exact k.newobj i o b h1 hb
  .grind
theorem jgw{E:Ent}{c:Ctx}{h:g9}{w w':World}(s:HSim c h w)(k:E.ok c h w){i e sz m:Nat}{rows news:List (List AV)}{v v':Value}{us:List Value}(hi:h[i]?=some (.arr e sz rows))
  (hv:c.sl i rows.length=some v) (qm:news.length=m) (hm:0<m) (jm:rows.length+m<=68719476736) (my:∀r,r∈news->r.length=sz)
  (hus:∀(i' j:Nat) (r:List AV) (x:AV),news[i']?=some r->r[j]?=some x->∃u,us[i' * sz+j]?=some u/\DRel c.D x u) (ho:v'.oneCell'=true)
  (m8:∀xs,w.ownsRow 0 e sz v rows.length xs->w'.ownsRow 0 e sz v' (rows.length+m) (xs++us)) (zz:w'.os=w.os) (ht:w'.tape=w.tape) (y9:w'.output=w.output) (hs:w.heap.size<=w'.heap.size)
  (te:(∃g,v.ownBlock=some g/\v'.ownBlock=some g/\∀k,k≠g->w'.heap[k]?=w.heap[k]?)\/(v'.ownBlock=some w.heap.size/\∀k,k<w.heap.size->w'.heap[k]?=w.heap[k]?)) :
  ∃c',c.le c'/\HSim c' (h.set i (.arr e sz (rows++news))) w'/\E.ok c' (h.set i (.arr e sz (rows++news))) w'/\Rel c' (.own i (rows.length+m)) v':=by
 obtain⟨v0,vs,h1,_,vw,h2,h3,h4,h5,h6⟩:=s.obj i _ hi;rw[hv]at h1;cases h1;have qng:=m8 vs h2;have qqi:c.sl i (rows.length+m)=none:=vw _ aa;have hle0:c.le (c.addSl i (rows.length+m) v'):=Ctx.addSl_le qqi;have hbold:je c i (.arr e sz rows)=v.ownBlock:=bz
 -- what is known of the new block's cells,zqa data
 let L:=vs++us
 have hL:L.length=(rows.length+m) * sz:=qng.1;have hcellL:∀g j u,v'.ownBlock=some g->L[j]?=some u->w'.cell? ⟨g,j,none⟩=some u:=λg j u hg hu=>by
  have:=qng.cells hg j u hu
  rwa [vg,cz]at this
 have hjl:∀b j u,c.D b j=some u->v'.ownBlock=some b->j<rows.length * sz/\L[j]?=some u:=λb j u hD jp=>by
  rcases te with⟨g,hg,qe,hk⟩|⟨qe,hk⟩
  .rw[qe]at jp;cases jp;have hj:j<rows.length * sz:=s.sep i _ b j u hi af hD;have hjl:j<vs.length:=by rw[h2.1];exact hj
   have c1:=h2.cells hg j vs[j] (by simp[hjl]);rw[vg,cz,s.data b j u hD]at c1;refine⟨hj,?_⟩;show(vs++us)[j]?=some u;rw[co hjl,cu hjl,<-c1]
  .rw[qe]at jp;cases jp;rw[s.noD (cn _)]at hD;cases hD
 let c':Ctx:={ c.addSl i (rows.length+m) v' with D:=λb j=>if v'.ownBlock=some b/\j<L.length then L[j]? else c.D b j }
 have hDle:∀b j u,c.D b j=some u->c'.D b j=some u:=λb j u hD=>by grind
 have ij:c.le c':=⟨hDle,λ_ _ h=>h,hle0.sl⟩
 have qu8:∀b j u,c'.D b j=some u->(v'.ownBlock=some b/\j<L.length/\L[j]?=some u)\/(v'.ownBlock≠some b/\c.D b j=some u):=λb j u hD=>by grind
 have na:∀j,j≠i->∀m',c'.sl j m'=c.sl j m':=λj hj m'=>by grind[Ctx.addSl]
 have qv7:(rows++news).length=rows.length+m:=by simp[qm]
 have hslv:c'.sl i (rows++news).length=some v':=by grind[Ctx.addSl]
 have qp5:je c' i (.arr e sz (rows++news))=v'.ownBlock:=bz;have hile:i<h.length:=(cm.1 hi).1
 -- a block of another object stands
 have ov:∀j o b,j≠i->h[j]?=some o->je c j o=some b->w'.heap[b]?=w.heap[b]?:=λj o b hj kx hb=>by
  rcases te with⟨g,hg,jp,hk⟩|⟨jp,hk⟩
  .refine hk b λe=>hj ?_;subst e;exact s.apart j i o _ b kx hi hb af
  .exact hk b ((s.obj j o kx).lt hb)
 -- the new block of object i,and the others
 have qnw:∀j o b,j≠i->h[j]?=some o->je c j o=some b->v'.ownBlock≠some b:=λj o b hj kx hb v6=>by
  rcases te with⟨g,hg,jp,hk⟩|⟨jp,hk⟩
  .rw[jp]at v6;cases v6;exact hj (s.apart j i o _ _ kx hi hb af)
  .rw[jp]at v6;cases v6;have:=(s.obj j o kx).lt hb;omega
 have hnewblk:∀b,v'.ownBlock=some b->(∃i0 o0,E.h[i0]?=some o0/\je E.c i0 o0=some b)\/E.w.heap.size<=b:=λb hb=>by
  rcases te with⟨g,hg,jp,hk⟩|⟨jp,hk⟩
  .rw[jp]at hb;cases hb;exact k.newobj i _ _ hi af
  .rw[jp]at hb;cases hb;exact .inr k.size
 refine⟨c',ij,⟨λb j u hD=>?_,λj hj=>?_,λj o hj=>?_,λj j' o o' b hj ny hb iq=>?_,λj o b n u hj hb hD=>?_⟩,⟨k.edom,k.ext.trans ij,k.blk0,bs,zz.trans k.os,ht.trans k.tape,y9.trans k.output,dv k.size hs,λb hb kf=>?_,λj o b hj hb=>?_,λb j u hD=>?_⟩,
  .own i _ v' af ho⟩
 .rcases qu8 b j u hD with⟨hg,_,hu⟩|⟨hg,o7⟩
  .grind
  .have mb:=s.data b j u o7;rcases te with⟨g,zp,jp,hk⟩|⟨jp,hk⟩
   .rw[World.cell?_of_block (w:=w) (hk b (λe=>hg (by rw[jp,e])))];exact mb
   .have hb:b<w.heap.size:=World.block_lt_of_cell? w ⟨b,j,none⟩ mb;rw[World.cell?_of_block (w:=w) (hk b hb)];exact mb
 .have ny:h.length<=j:=qfs;have:=s.dom j ny;exact⟨this.1,λm'=>by rw[na j aa];exact this.2 m'⟩
 .rcases m7 hj with⟨rfl,rfl⟩|⟨it,kx⟩
  .refine⟨v',vs++us,hslv,ho,λm' og=>?_,by rw[qv7];exact qng,aa,λr hr=>?_,λi' j' r x hr hx=>?_,λb n hb hn=>?_⟩
   .grind[Ctx.addSl]
   .grind
   .obtain⟨u,hu,hd⟩:=DRel.flat h5 h2.1 hus i' j' r x hr hx;exact⟨u,hu,hd.mono hDle⟩
   .grind
  .exact(s.obj j o kx).keep ij (na j it) λb hb=>ov j o b it kx hb
 .rcases m7 hj with⟨rfl,rfl⟩|⟨it,kx⟩<;>rcases m7 ny with⟨h8,h7⟩|⟨hne',hjo'⟩
  .omega
  .rw[qp5]at hb;rw[(s.obj j' o' hjo').blk ij]at iq;exact(qnw j' o' b hne' hjo' iq hb).elim
  .subst h8;subst h7;rw[qp5]at iq;rw[(s.obj j o kx).blk ij]at hb;exact(qnw j o b it kx hb iq).elim
  .rw[(s.obj j o kx).blk ij]at hb;rw[(s.obj j' o' hjo').blk ij]at iq;exact s.apart j j' o o' b kx hjo' hb iq
 .rcases m7 hj with⟨rfl,rfl⟩|⟨it,kx⟩
  .grind[AObj.shares]
  .rw[(s.obj j o kx).blk ij]at hb;rcases qu8 b n u hD with⟨hg,_⟩|⟨_,o7⟩
   .grind
   .exact s.sep j o b n u kx hb o7
 .have it:∀g,v.ownBlock=some g->b≠g:=λg hg e=>by
   subst e;rcases k.newobj i _ b hi af with⟨i0,o0,h0,h1⟩|h2
   .grind
   .omega
  rcases te with⟨g,hg,jp,hk⟩|⟨jp,hk⟩
  .rw[hk b (it g hg)];exact k.frame b hb kf
  .rw[hk b (qi4 hb k.size)];exact k.frame b hb kf
 .rcases m7 hj with⟨rfl,rfl⟩|⟨it,kx⟩
  .grind
  .rw[(s.obj j o kx).blk ij]at hb;exact k.newobj j o b kx hb
 .rcases qu8 b j u hD with⟨hg,_⟩|⟨_,o7⟩
  .grind
  .exact k.dold b j u o7
theorem qy9{c:Ctx}{h:g9}{w:World}(s:HSim c h w){rows:List (List AV)}{sz:Nat}(jx:∀r,r∈rows->r.length=sz)(h0:0<sz){u:Value}(hr:DRel c.D (.slice rows) u) :
  ∃ad cap,u=.slice ad rows.length cap/\(rows=[]\/∃b off,ad=some ⟨b,off,none⟩/\∃us:List Value,us.length=rows.length * sz/\(∀j v,us[j]?=some v->w.cell? ⟨b,off+j,none⟩=some v)/\(∀v,v∈us->v.oneCell'=true) /\
   ∀(i j:Nat) (r:List AV) (x:AV),rows[i]?=some r->r[j]?=some x->∃v,us[i * sz+j]?=some v/\DRel c.D x v):=by
 cases hr with
 |nil=>exact⟨none,0,rfl,.inl rfl⟩
 |empty a=>exact⟨some a,0,rfl,.inl rfl⟩
 |slice rows b off cap ky g ut hB hc hD hh =>
  refine⟨_,cap,rfl,?_⟩;by_cases he:rows=[]
  .grind
  .refine .inr ⟨b,off,rfl,?_⟩;have hpos:0<rows.length:=af;have:ky=sz:=by rw[<-ut rows[0] ac,jx rows[0] ac]
   subst this;obtain⟨us,hl,hp⟩:=xbv (λk v=>w.cell? ⟨b,off+k,none⟩=some v/\v.oneCell'=true/\∀r x,rows[k / ky]?=some r->r[k % ky]?=some x->DRel c.D x v) (rows.length * ky) (λk hk=>by
    have hq:k / ky<rows.length:=Nat.div_lt_of_lt_mul af;have my:rows[k / ky].length=ky:=ut _ ac;have hm:k % ky<rows[k / ky].length:=qf8;have e1:rows[k / ky]?=some rows[k / ky]:=qgj;have e2:rows[k / ky][k % ky]?=some rows[k / ky][k % ky]:=by simp[hm]
    have hd:=hD _ _ _ _ e1 e2;have jr:=hh _ _ _ _ e1 e2;have kb:off+k / ky * ky+k % ky=off+k:=by grind[Nat.mul_comm,Nat.div_add_mod]
    rw[kb]at hd;refine⟨_,s.data _ _ _ hd,jr.one,λr x hr hx=>?_⟩;rw[e1]at hr;cases hr;rw[e2]at hx;cases hx;exact jr)
   refine⟨us,hl,λj v hv=>(hp j v hv).1,λv hv=>?_,λi j r x hr hx=>?_⟩
   .grind[da]
   .have hj:j<ky:=by rw[<-ut r (cv hr)];exact(cm.1 hx).1
    have hi:i<rows.length:=(cm.1 hr).1;have il:i * ky+j<us.length:=by
     have:(i+1) * ky<=rows.length * ky:=dx _ hi;rw[ee]at this;omega
    refine⟨us[i * ky+j],bc,(hp (i * ky+j) _ bc).2.2 r x ?_ ?_⟩
    .simp_all[Nat.mul_comm,Nat.mul_add_div,Nat.div_eq_of_lt,ea]
    .grind[Nat.mul_comm,Nat.mul_add_mod,Nat.mod_eq_of_lt]
end Go.Abs
