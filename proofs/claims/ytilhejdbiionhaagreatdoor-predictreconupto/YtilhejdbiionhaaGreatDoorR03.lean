/- Part 3 of a proof: AbsDb, AbsDc, AbsDd -/
import Derived.DeepKeys
import Derived.MapKept
import Derived.Test.YtilhejdbiionhaaGreatDoorR02
set_option linter.all false

namespace Go.Abs
def fitV:List TK→List Value→Prop
 | [],[]=>True
 | .bool::ks,.bool _::xs=>fitV ks xs
 | .int k::ks,.int k' _::xs=>k'=k∧fitV ks xs
 | .string::ks,.string _::xs=>fitV ks xs
 |_,_=>False
def eqV:List Value→List Value→Bool
 | [],[]=>true
 | .bool a::xs,.bool b::ys=>decide (a=b)&&eqV xs ys
 | .int _ a::xs,.int _ b::ys=>decide (a=b)&&eqV xs ys
 | .string a::xs,.string b::ys=>decide (a=b)&&eqV xs ys
 |_,_=>false
def mkV(P:Program)(t:TypeId)(cs:List Value):Value :=
 match P.underlying t with
 |some (.struct _)=>.agg cs.toArray
 |_=>cs.headD undef
theorem fitV_len:∀{ks:List TK} {xs:List Value},fitV ks xs→xs.length=ks.length
 | [],[],_=>rfl
 | [],_::_,h=>by simp[fitV]at h
 |k::ks,[],h=>by cases k<;>simp[fitV]at h
 |k::ks,x::xs,h=>by
  cases k<;>cases x<;>simp only[fitV]at h<;>first|(exact h.elim)|skip
  ·simp[fitV_len h]
  ·simp[fitV_len h.2]
  ·simp[fitV_len h]
theorem fitV_app:∀{ks ks':List TK} {l:List Value},fitV (ks++ks') l→fitV ks (l.take ks.length)∧fitV ks' (l.drop ks.length)
 | [],ks',l,h=>⟨by simp[fitV],by simpa using h⟩
 |k::ks,ks',[],h=>by cases k<;>simp[fitV]at h
 |k::ks,ks',x::xs,h=>by
  cases k<;>cases x<;>simp only[List.cons_append,fitV]at h<;>first|(exact h.elim)|skip
  ·simpa[fitV]using fitV_app h
  ·have:=fitV_app h.2;simpa[fitV,h.1]using this
  ·simpa[fitV]using fitV_app h
theorem eqV_app:∀{ks:List TK} {a b c d:List Value},fitV ks a→fitV ks b→eqV (a++c) (b++d)=(eqV a b&&eqV c d)
 | [],a,b,c,d,ha,hb=>by
  have h1:=fitV_len ha;have h2:=fitV_len hb;simp at h1 h2;subst h1;subst h2;simp[eqV]
 |k::ks,[],b,c,d,ha,hb=>by cases k<;>simp[fitV]at ha
 |k::ks,x::a,[],c,d,ha,hb=>by cases k<;>simp[fitV]at hb
 |k::ks,x::a,y::b,c,d,ha,hb=>by
  cases k<;>cases x<;>simp only[fitV]at ha<;>first|(exact ha.elim)|skip
  all_goals cases y<;>simp only[fitV]at hb<;>first|(exact hb.elim)|skip
  ·simp[eqV,eqV_app (c:=c) (d:=d) ha hb,Bool.and_assoc]
  ·simp[eqV,eqV_app (c:=c) (d:=d) ha.2 hb.2,Bool.and_assoc]
  ·simp[eqV,eqV_app (c:=c) (d:=d) ha hb,Bool.and_assoc]
section
variable {P:Program} {w:World}
def EqOk(P:Program)(w:World)(n:Nat)(t:TypeId)(ks:List TK):Prop :=
 ∀xs ys:List Value,fitV ks xs→fitV ks ys→(Op.equalIn n t (mkV P t xs) (mkV P t ys)).run P w=.ok (eqV xs ys) w
theorem flat_und{d:Nat}{t:TypeId}{ks:List TK}(h:flatEq P d t=some ks):∃kd,P.underlying t=some kd:=by
 cases d with
 |zero=>simp[flatEq]at h
 |succ d =>
  unfold flatEq at h;split at h<;>first|exact⟨_,by assumption⟩|cases h
theorem run_part_flat{d:Nat}{t:TypeId}{ks:List TK}(h:flatEq P d t=some ks)(hl:ks.length=P.cellsOf t){xs:Array Value}{off:Nat}(hf:fitV ks ((xs.toList.drop off).take ks.length)) :
  (part t xs off).run P w=.ok (mkV P t ((xs.toList.drop off).take ks.length)) w:=by
 obtain⟨kd,hu⟩:=flat_und h;obtain⟨i,hi⟩:=info_of_underlying hu;have one:∀k,ks=[k]→(∀fs,kd≠.struct fs)→(∀n e,kd≠.array n e)→(part t xs off).run P w=.ok (mkV P t ((xs.toList.drop off).take ks.length)) w:=by
  intro k hk hns hna;subst hk;have hlen:=fitV_len hf;have hoff:off<xs.size:=by
   simp at hlen;omega
  have hx:xs[off]?=some xs[off]:=by simp[hoff]
  have hm:mkV P t ((xs.toList.drop off).take 1)=xs[off]:=by
   have hd:((xs.toList.drop off).take 1).headD undef=xs[off]:=by
    rw[List.drop_eq_getElem_cons (by simpa using hoff)];simp
   unfold mkV;rw[hu];cases kd<;>first|(exact(hns _ rfl).elim)|exact hd
  simp only[List.length_singleton,hm];have hagg:(isAgg t).run P w=.ok false w:=by
   simp only[isAgg,Sem.run_bind,run_underlying hu,Result.andThen_ok];cases kd<;>first|(exact(hns _ rfl).elim)|(exact(hna _ _ rfl).elim)|rfl
  simp only[part,Sem.run_bind,hagg,Result.andThen_ok,Bool.false_eq_true,if_false,hx,Sem.run_pure]
 cases d with
 |zero=>simp[flatEq]at h
 |succ d =>
  unfold flatEq at h;rw[hu]at h;split at h
  ·rename_i hk;cases hk;cases h;exact one _ rfl (by simp) (by simp)
  ·rename_i k hk;cases hk;cases h;exact one _ rfl (by simp) (by simp)
  ·rename_i hk;cases hk;cases h;exact one _ rfl (by simp) (by simp)
  ·rename_i fs hk;cases hk;have hagg:(isAgg t).run P w=.ok true w:=by
    simp only[isAgg,Sem.run_bind,run_underlying hu,Result.andThen_ok];rfl
   have hm:mkV P t ((xs.toList.drop off).take ks.length)=.agg (xs.extract off (off+P.cellsOf t)):=by
    unfold mkV;rw[hu];simp only[Value.agg.injEq];apply Array.ext';rw[Array.toList_extract,hl];simp[List.extract]
   rw[hm];simp only[part,Sem.run_bind,hagg,Result.andThen_ok,if_true,run_sizeOf w hi,Sem.run_pure]
  ·cases h
theorem run_eqFields_flat{n d:Nat}(IH:∀t ks,flatEq P d t=some ks→EqOk P w n t ks):∀(fs:List Field) (off:Nat) (ks:List TK),flatFields (flatEq P d) P off fs=some ks →
  ∀xs ys:Array Value,fitV ks (xs.toList.drop off)→fitV ks (ys.toList.drop off)→(Op.eqFields n xs ys fs).run P w=.ok (eqV (xs.toList.drop off) (ys.toList.drop off)) w
 | [],off,ks,h,xs,ys,hx,hy=>by
  simp only[flatFields,Option.some.injEq]at h;subst h;have h1:=fitV_len hx;have h2:=fitV_len hy;have e1:xs.toList.drop off=[]:=List.length_eq_zero_iff.1 (by simpa using h1);have e2:ys.toList.drop off=[]:=List.length_eq_zero_iff.1 (by simpa using h2);rw[e1,e2];simp[Op.eqFields,eqV]
 |f::fs,off,ks,h,xs,ys,hx,hy=>by
  simp only[flatFields]at h;split at h
  ·rename_i hn;obtain⟨hnm,rfl⟩:=hn;split at h
   ·rename_i k1 hk1;split at h
    ·rename_i hlen;simp only[Option.map_eq_some_iff]at h;obtain⟨k2,hk2,rfl⟩:=h;obtain⟨x1,x2⟩:=fitV_app hx;obtain⟨y1,y2⟩:=fitV_app hy;rw[List.drop_drop]at x2 y2;have p1:=run_part_flat (w:=w) hk1 hlen x1;have p2:=run_part_flat (w:=w) hk1 hlen y1;have p3:=IH f.type k1 hk1 _ _ x1 y1;have p4:=run_eqFields_flat IH fs (f.offset+k1.length) k2 hk2 xs ys x2 y2;have hsplit:∀zs:Array Value,zs.toList.drop f.offset=(zs.toList.drop f.offset).take k1.length++zs.toList.drop (f.offset+k1.length):=fun zs=>by
      rw[←List.drop_drop,List.take_append_drop]
     rw[hsplit xs,hsplit ys,eqV_app x1 y1];simp only[Op.eqFields,hnm,ne_eq,not_false_eq_true,if_true,Sem.run_bind,p1,p2,p3,Result.andThen_ok];cases eqV ((xs.toList.drop f.offset).take k1.length) ((ys.toList.drop f.offset).take k1.length)with
     |false=>simp
     |true=>simpa using p4
    ·cases h
   ·cases h
  ·cases h
theorem run_equalIn_flat:∀(d:Nat) (n:Nat) (t:TypeId) (ks:List TK),flatEq P d t=some ks→EqOk P w (n+d) t ks
 | 0,_,_,_,h=>by simp[flatEq]at h
 |d+1,n,t,ks,h=>by
  intro xs ys hx hy;unfold flatEq at h;obtain⟨kd,hu⟩:∃kd,P.underlying t=some kd:=by split at h<;>first|exact⟨_,by assumption⟩|cases h
  rw[hu]at h;have one:∀k,ks=[k]→∃x y,xs=[x]∧ys=[y]:=fun k hk=>by
   subst hk;exact⟨_,_,(List.length_eq_one_iff.1 (fitV_len hx)).choose_spec,(List.length_eq_one_iff.1 (fitV_len hy)).choose_spec⟩
  split at h
  ·rename_i hk;cases hk;cases h;obtain⟨x,y,rfl,rfl⟩:=one _ rfl;cases x<;>simp only[fitV]at hx;cases y<;>simp only[fitV]at hy;rename_i a b;simp only[mkV,hu,List.headD_cons,eqV,Bool.and_true];rw[show n+(d+1)=(n+d)+1 from rfl,run_equalIn_bool w (n+d) t a b hu];cases a<;>cases b<;>rfl
  ·rename_i k hk;cases hk;cases h;obtain⟨x,y,rfl,rfl⟩:=one _ rfl;cases x<;>simp only[fitV]at hx;cases y<;>simp only[fitV]at hy;rename_i k1 a k2 b;obtain rfl:=hx.1;obtain rfl:=hy.1;simp only[mkV,hu,List.headD_cons,eqV,Bool.and_true];rw[show n+(d+1)=(n+d)+1 from rfl,run_equalIn_int w (n+d) t _ _ a b hu];rfl
  ·rename_i hk;cases hk;cases h;obtain⟨x,y,rfl,rfl⟩:=one _ rfl;cases x<;>simp only[fitV]at hx;cases y<;>simp only[fitV]at hy;rename_i a b;simp only[mkV,hu,List.headD_cons,eqV,Bool.and_true];rw[show n+(d+1)=(n+d)+1 from rfl,run_equalIn_string w (n+d) t a b hu];congr 1;rw[ByteArray.toList_eq,ByteArray.toList_eq];by_cases hab:a=b
   ·subst hab;simp
   ·have:a.data.toList≠b.data.toList:=fun e=>hab (by cases a;cases b;simp at e;simp[e]);rw[beq_eq_false_iff_ne.2 this,decide_eq_false hab]
  ·rename_i fs hk;cases hk;split at h
   ·cases h
   ·rename_i hst;have hfs:P.fieldsOf t=fs:=by simp[Program.fieldsOf,hu]
    have:=run_eqFields_flat (n:=n+d) (fun t ks h=>run_equalIn_flat d n t ks h) fs.toList 0 ks h xs.toArray ys.toArray (by simpa using hx) (by simpa using hy);simp only[mkV,hu];rw[show n+(d+1)=(n+d)+1 from rfl,run_equalIn_struct w (n+d) t _ _ (by rw[hfs];exact hu) (by simpa using hst),hfs,this];simp
  ·cases h
end
end Go.Abs

namespace Go.Abs
open Go.MapKept
theorem strKeys_inv:∀{es:List (AV×AV)} {l:List (ByteArray×AV)},strKeys es=some l→es=qb5 l
 | [],l,h=>by simp[strKeys]at h;subst h;rfl
 |(k,v)::es,l,h=>by
  unfold strKeys at h;split at h
  ·rename_i h1;cases h1
  ·rename_i s' v' l' h1;cases h1;simp only[Option.map_eq_some_iff]at h;obtain⟨l2,h2,rfl⟩:=h;rw[strKeys_inv h2];rfl
  ·cases h
theorem val_inv'{c:Ctx}{x v:Value}(h:Rel c (.val x) v):v=x:=by
 cases h with
 |data h=>cases h;rfl
 |val=>rfl
theorem val_ok{c:Ctx}{x v:Value}(h:Rel c (.val x) v):strOk x=true:=by
 cases h with
 |data h=>cases h with|val _ _ hs=>exact hs
 |val _ hs=>exact hs
def RelE(c:Ctx)(l:List (ByteArray×AV))(ces:List MapEntry):Prop :=
 ces.length=l.length∧∀(j:Nat) (p:ByteArray×AV) (ce:MapEntry),l[j]?=some p→ces[j]?=some ce→(ce.key=.string p.1∧strOk (.string p.1)=true)∧Rel c p.2 ce.val
def kvIdx:List (ByteArray×AV)→ByteArray→Option Nat
 | [],_=>none
 |p::l,s=>if p.1=s then some 0 else(kvIdx l s).map (· + 1)
theorem kvIdx_lt:∀{l:List (ByteArray×AV)} {s:ByteArray} {j:Nat},kvIdx l s=some j→j<l.length
 | [],_,_,h=>by cases h
 |p::l,s,j,h=>by
  simp only[kvIdx]at h;split at h
  ·cases h;simp
  ·simp only[Option.map_eq_some_iff]at h;obtain⟨j',h,rfl⟩:=h;have:=kvIdx_lt h;simpa using this
theorem kvIdx_key:∀{l:List (ByteArray×AV)} {s:ByteArray} {j:Nat},kvIdx l s=some j→∃v,l[j]?=some (s,v)
 | [],_,_,h=>by cases h
 |p::l,s,j,h=>by
  simp only[kvIdx]at h;split at h
  ·rename_i hp;cases h;exact⟨p.2,by simp[←hp]⟩
  ·simp only[Option.map_eq_some_iff]at h;obtain⟨j',h,rfl⟩:=h;simpa using kvIdx_key h
theorem kvGet_idx:∀(l:List (ByteArray×AV)) (s:ByteArray),kvGet l s=(kvIdx l s).bind fun j=>(l[j]?).map (·.2)
 | [],_=>rfl
 |p::l,s=>by
  simp only[kvGet,kvIdx];split
  ·simp
  ·rw[kvGet_idx l s];cases kvIdx l s<;>simp
theorem kvSet_idx:∀(l:List (ByteArray×AV)) (s:ByteArray) (v:AV),kvSet l s v=match kvIdx l s with|some j=>l.set j (s,v)|none=>l++[(s,v)]
 | [],_,_=>rfl
 |p::l,s,v=>by
  simp only[kvSet,kvIdx];split
  ·rfl
  ·rw[kvSet_idx l s v];cases kvIdx l s<;>simp
theorem kvDel_idx:∀(l:List (ByteArray×AV)) (s:ByteArray),kvDel l s=match kvIdx l s with|some j=>l.eraseIdx j|none=>l
 | [],_=>rfl
 |p::l,s=>by
  simp only[kvDel,kvIdx];split
  ·rfl
  ·rw[kvDel_idx l s];cases kvIdx l s<;>simp
theorem findNow_kv{c:Ctx}(s:ByteArray):∀(l:List (ByteArray×AV)) (ces:List MapEntry) (i:Nat),RelE c l ces →
  Instr.findNow .string (.string s) ces i=some ((kvIdx l s).bind fun j=>(ces[j]?).map fun e=>(i+j,e.val))
 | [],ces,i,h=>by
  have:=List.length_eq_zero_iff.1 h.1;subst this;rfl
 |p::l,[],i,h=>by have:=h.1;simp at this
 |p::l,ce::ces,i,h=>by
  have h0:=(h.2 0 p ce rfl rfl).1.1;have ht:RelE c l ces:=⟨by simpa using h.1,fun j p ce hp hc=>h.2 (j+1) p ce (by simpa using hp) (by simpa using hc)⟩
  simp only[Instr.findNow,h0,Instr.sameNow,kvIdx];by_cases hs:p.1=s
  ·rw[if_pos hs];have:(s == p.1)=true:=by rw[hs];exact(bytes_beq _ _).2 rfl
   simp[this]
  ·rw[if_neg hs];have:(s == p.1)=false:=by
    cases hb:s == p.1 with
    |false=>rfl
    |true=>exact(hs ((bytes_beq _ _).1 hb).symm).elim
   simp only[this];rw[findNow_kv s l ces (i+1) ht];cases kvIdx l s with
   |none=>rfl
   |some j =>
    simp only[Option.bind_some,Option.map_some,List.getElem?_cons_succ];congr 2;funext e;rw[show i+1+j=i+(j+1)from by omega]
section
variable {P:Program} {w:World}
theorem relE_of{c:Ctx}{l:List (ByteArray×AV)}{ces:Array MapEntry}(hl:ces.size=(qb5 l).length)(h:∀(j:Nat) (k x:AV) (ce:MapEntry),(qb5 l)[j]?=some (k,x)→ces[j]?=some ce→Rel c k ce.key∧Rel c x ce.val):RelE c l ces.toList :=
 ⟨by simpa[qb5]using hl,fun j p ce hp hc=>by
  have:=h j (.val (.string p.1)) p.2 ce (by simp[qb5,hp]) (by simpa using hc);exact⟨⟨val_inv' this.1,val_ok this.1⟩,this.2⟩⟩
theorem of_relE{c:Ctx}{l:List (ByteArray×AV)}{ces:Array MapEntry}(h:RelE c l ces.toList):ces.size=(qb5 l).length∧∀(j:Nat) (k x:AV) (ce:MapEntry),(qb5 l)[j]?=some (k,x)→ces[j]?=some ce→Rel c k ce.key∧Rel c x ce.val :=
 ⟨by simpa[qb5]using h.1,fun j k x ce hk hc=>by
  simp only[qb5,List.getElem?_map,Option.map_eq_some_iff,Prod.mk.injEq]at hk;obtain⟨p,hp,rfl,rfl⟩:=hk;obtain⟨h1,h2⟩:=h.2 j p ce hp (by simpa using hc);exact⟨by rw[h1.1];exact .val _ h1.2,h2⟩⟩
theorem zeroAV_ok{c:Ctx}{e:TypeId}{z:AV}(h:zeroAV P e=some z):∃v,(zeroValue e).run P w=.ok v w∧Rel c z v:=by
 unfold zeroAV at h;split at h
 ·rename_i i hi;have hrun:∀v,i.zero=some v→(zeroValue e).run P w=.ok v w:=fun v hv=>by
   simp only[zeroValue,Sem.run_bind,run_typeInfo w hi,Result.andThen_ok,hv];simp
  split at h
  ·rename_i vs hz;split at h
   ·rename_i hone;cases h;refine⟨_,hrun _ hz,.agg _ _ (by simp) (fun j v hv=>List.all_eq_true.1 hone v (by simpa using Array.mem_of_getElem? hv)) fun j x v hx hv=>?_⟩;simp only[List.getElem?_map,Option.map_eq_some_iff]at hx;obtain⟨u,hu,rfl⟩:=hx;have:u=v:=by
     have hv':vs.toList[j]?=some v:=by simpa using hv
     rw[hu]at hv';cases hv';rfl
    subst this;exact liftC_rel c _
   ·cases h
  ·rename_i z' _ hz;cases h;exact⟨_,hrun _ hz,liftC_rel c _⟩
  ·cases h
 ·cases h
theorem map_und{T k e:TypeId}(h:qah P T=.map k e):P.underlying T=some (.map k e):=by
 unfold qah at h;cases ht:ti P T with
 |none=>rw[ht]at h;cases h
 |some x =>
  rw[ht]at h;obtain⟨i,d,z,_,h4,_,rfl,_⟩:=ti_spec ht;rw[h4];simp only at h;cases d<;>simp only[qbd]at h<;>first|(split at h<;>cases h)|(cases h;done)|skip
  cases h;rfl
theorem str_und{T:TypeId}(h:qah P T=.string):P.underlying T=some .string:=by
 unfold qah at h;cases ht:ti P T with
 |none=>rw[ht]at h;cases h
 |some x =>
  rw[ht]at h;obtain⟨i,d,z,_,h4,_,rfl,_⟩:=ti_spec ht;rw[h4];simp only at h;cases d<;>simp only[qbd]at h<;>first|rfl|(split at h<;>cases h)|cases h
theorem mapr_inv{c:Ctx}{i:Nat}{v:Value}(h:Rel c (.mapr i) v):∃b,v=.map (some b)∧c.blk i=some b:=by
 cases h with
 |data h=>cases h
 |mapr i b h=>exact⟨b,rfl,h⟩
theorem isKey_str(s:ByteArray):IsKey .string (.string s):=by simp[IsKey]
theorem lookup_ok{c:Ctx}{h:qab}(hs:HSim c h w){T:TypeId}{x i:AV}{u v:Value}(hx:Rel c x u)(hi:Rel c i v){ok:Bool}(hside:(aLookup P T x i ok h).side) :
  ∃r,(Instr.lookup T u v ok).run P w=.ok r w∧Rel c (aLookup P T x i ok h).val r:=by
 unfold aLookup at hside⊢;split at hside
 ·rename_i k e o s hk;split at hside
  ·rename_i es hes;split at hside
   ·rename_i l z hl hz;simp only[hes,hl,hz];obtain rfl:=strKeys_inv hl;obtain⟨b,rfl,hb⟩:=mapr_inv hx;obtain rfl:=val_inv' hi;obtain⟨b',ces,clock,g1,g2,g3,g4,g5⟩:=hs.obj o _ hes;rw[hb]at g1;cases g1;have hE:=relE_of g3 g4;have hT:=map_und hk;have hK:=str_und hside;obtain⟨zv,hzr,hzrel⟩:=zeroAV_ok (P:=P) (w:=w) (c:=c) hz;have hfind:=run_findKey (P:=P) (w:=w) (kt:=k) hK (findNow_kv s l ces.toList 0 hE);have hrun:∃rv:Value×Bool,(Instr.lookup T (.map (some b)) (.string s) ok).run P w=.ok (if ok then .tuple #[rv.1,.bool rv.2]else rv.1) w∧Rel c ((kvGet l s).getD z) rv.1∧rv.2=(kvGet l s).isSome:=by
     rw[kvGet_idx];cases hj:kvIdx l s with
     |none =>
      rw[hj]at hfind;refine⟨(zv,false),?_,hzrel,rfl⟩;simp only[Instr.lookup,Sem.run_bind,run_underlying hT,Result.andThen_ok,run_getObj_map g2,Sem.run_pure,run_checkKey hK (isKey_str s),hfind,Option.bind_none,hzr]
     |some j =>
      rw[hj]at hfind;obtain⟨pv,hp⟩:=kvIdx_key hj;have hlt:j<ces.toList.length:=by rw[hE.1];exact kvIdx_lt hj
      have hce:ces.toList[j]?=some ces.toList[j]:=by simp[hlt]
      refine⟨(ces.toList[j].val,true),?_,?_,by simp[hp]⟩
      ·simp only[Instr.lookup,Sem.run_bind,run_underlying hT,Result.andThen_ok,run_getObj_map g2,Sem.run_pure,run_checkKey hK (isKey_str s),hfind,Option.bind_some,hce,Option.map_some]
      ·simp only[Option.bind_some,hp,Option.map_some,Option.getD_some];exact(hE.2 j _ _ hp hce).2
    obtain⟨rv,hrun,hr2,hr3⟩:=hrun;refine⟨_,hrun,?_⟩;cases ok with
    |false=>exact hr2
    |true =>
     refine .tuple _ _ (by simp) fun j x v hx hv=>?_
     match j with
     | 0=>simp at hx hv;subst hx;subst hv;exact hr2
     | 1=>simp at hx hv;subst hx;subst hv;rw[hr3];exact .val _
     |j+2=>simp at hx
   ·exact hside.elim
  ·exact hside.elim
 ·exact hside.elim
end
end Go.Abs

namespace Go.Abs
open Go.MapKept
section
variable {P:Program}
theorem mapClk.push{ces:Array MapEntry}{clock:Nat}(h:mapClk ces clock)(k v:Value):mapClk (ces.push ⟨k,v,clock⟩) (clock+1):=by
 refine⟨fun e he=>?_,?_⟩
 ·rw[Array.toList_push,List.mem_append]at he;rcases he with he|he
  ·exact Nat.lt_succ_of_lt (h.1 e he)
  ·rw[List.mem_singleton.1 he];exact Nat.lt_succ_self _
 ·rw[Array.toList_push,List.pairwise_append];refine⟨h.2,by simp,fun a ha b hb=>?_⟩;rw[List.mem_singleton.1 hb];exact Nat.ne_of_lt (h.1 a ha)
theorem mapClk_born{a b:List MapEntry}{clock:Nat}(hb:b.map (·.born)=a.map (·.born))(h:(∀e,e∈a→e.born<clock)∧a.Pairwise fun x y=>x.born≠y.born):(∀e,e∈b→e.born<clock)∧b.Pairwise fun x y=>x.born≠y.born:=by
 refine⟨fun e he=>?_,?_⟩
 ·have h1:e.born∈a.map (·.born):=by rw[←hb];exact List.mem_map.2 ⟨e,he,rfl⟩
  obtain⟨e',he',e2⟩:=List.mem_map.1 h1;rw[←e2];exact h.1 e' he'
 ·have h2:(a.map (·.born)).Pairwise (·≠·):=List.pairwise_map.2 h.2
  rw[←hb]at h2;exact List.pairwise_map.1 h2
theorem mapClk.modify{ces:Array MapEntry}{clock:Nat}(h:mapClk ces clock)(j:Nat)(k v:Value):mapClk (ces.modify j fun e=>{ e with key:=k,val:=v }) clock:=by
 refine mapClk_born (a:=ces.toList) (List.ext_getElem? fun n=>?_) h;rw[List.getElem?_map,List.getElem?_map,Array.getElem?_toList,Array.getElem?_toList,Array.getElem?_modify];split
 ·rcases ces[n]? with _|e<;>rfl
 ·rfl
theorem mapClk.erase{ces:Array MapEntry}{clock:Nat}(h:mapClk ces clock)(j:Nat):mapClk (ces.eraseIdxIfInBounds j) clock:=by
 by_cases hj:j<ces.size
 ·have hto:(ces.eraseIdxIfInBounds j).toList=ces.toList.eraseIdx j:=by simp[Array.eraseIdxIfInBounds,hj]
  unfold mapClk;rw[hto];exact⟨fun e he=>h.1 e ((List.eraseIdx_sublist ces.toList j).subset he),h.2.sublist (List.eraseIdx_sublist ces.toList j)⟩
 ·have:ces.eraseIdxIfInBounds j=ces:=by simp[Array.eraseIdxIfInBounds,hj]
  rw[this];exact h
theorem mapset_ok{E:Ent}{c:Ctx}{h:qab}{w:World}(s:HSim c h w)(k:E.ok c h w){i b:Nat}{l l':List (ByteArray×AV)}{ces ces':Array MapEntry}{clock clock':Nat}
  (hi:h[i]?=some (.map (qb5 l))) (hb:c.blk i=some b) (hh:w.heap[b]?=some (.map ces clock)) (hE:RelE c l' ces'.toList) (hclk:mapClk ces' clock') :
  HSim c (h.set i (.map (qb5 l'))) { w with heap:=w.heap.setIfInBounds b (.map ces' clock') }∧E.ok c (h.set i (.map (qb5 l'))) { w with heap:=w.heap.setIfInBounds b (.map ces' clock') }:=by
 have hlt:b<w.heap.size:=(Array.getElem?_eq_some_iff.1 hh).1;have hoth:∀g,g≠b→({ w with heap:=w.heap.setIfInBounds b (.map ces' clock') }:World).heap[g]?=w.heap[g]?:=fun g hg=>(heap_set hh).2 g hg;have hbo:qag c i (.map (qb5 l))=some b:=hb;have hsize:({ w with heap:=w.heap.setIfInBounds b (.map ces' clock') }:World).heap.size=w.heap.size:=by simp
 have holt:∀j o b',(h.set i (.map (qb5 l')))[j]?=some o→qag c j o=some b'→∃o0,h[j]?=some o0∧qag c j o0=some b':=fun j o b' hj hb'=>by
  rcases qad hj with⟨rfl,rfl⟩|⟨hne,h1⟩
  ·exact⟨_,hi,hb'⟩
  ·exact⟨o,h1,hb'⟩
 obtain⟨e1,e2⟩:=of_relE hE;constructor
 ·refine⟨fun g j v hD=>?_,fun j hj=>s.dom j (by simpa using hj),fun j o hj=>?_,fun j j' o o' b' hj hj' hb1 hb2=>?_,fun j o b' m v hj hb1 hD=>?_⟩
  ·have hg:g≠b:=fun e=>by
    subst e;exact s.sep i _ g j v hi hbo hD
   rw[World.cell?_of_block (w:=w) (hoth g hg)];exact s.data g j v hD
  ·rcases qad hj with⟨rfl,rfl⟩|⟨hne,h1⟩
   ·exact⟨b,ces',clock',hb,(heap_set hh).1,e1,e2,hclk⟩
   ·refine(s.obj j o h1).keep (.refl c) (fun _=>rfl) fun b' hb'=>hoth b' fun e=>hne ?_;subst e;exact s.apart j i o _ b' h1 hi hb' hbo
  ·obtain⟨o1,h1,h1'⟩:=holt j o b' hj hb1;obtain⟨o2,h2,h2'⟩:=holt j' o' b' hj' hb2;exact s.apart j j' o1 o2 b' h1 h2 h1' h2'
  ·rcases qad hj with⟨rfl,rfl⟩|⟨hne,h1⟩
   ·have:=s.sep j (.map (qb5 l)) b' m v hi hb1 hD;exact this
   ·exact s.sep j o b' m v h1 hb1 hD
 ·refine⟨k.edom,k.ext,k.blk0,by simpa using k.len,k.os,k.tape,k.output,by rw[hsize];exact k.size,fun g hg hno=>?_,fun j o b' hj hb1=>?_,k.dold⟩
  ·have hne:g≠b:=fun e=>by
    subst e;rcases k.newobj i _ g hi hbo with⟨o0,h0,h1⟩|h2
    ·exact hno i o0 h0 h1
    ·omega
   rw[hoth g hne];exact k.frame g hg hno
  ·obtain⟨o1,h1,h1'⟩:=holt j o b' hj hb1;exact k.newobj j o1 b' h1 h1'
theorem newmap_ok{E:Ent}{c:Ctx}{h:qab}{w:World}(s:HSim c h w)(k:E.ok c h w) :
  ∃c',c.le c'∧HSim c' (h++[.map []]) (w.alloc (.map #[] 0))∧E.ok c' (h++[.map []]) (w.alloc (.map #[] 0))∧c'.blk h.length=some w.heap.size:=by
 have hw:∀b,b<w.heap.size→(w.alloc (.map #[] 0)).heap[b]?=w.heap[b]?:=fun b hb=>heap_alloc_old w _ b hb;have s1:HSim c h (w.alloc (.map #[] 0)):=s.ext hw (.refl c) (fun _ _=>rfl) (fun _ _ _ h=>.inl h) s.dom;have k1:E.ok c h (w.alloc (.map #[] 0)):=k.ext' s hw (.refl c) (fun _=>rfl) rfl rfl rfl (alloc_le w _) (fun _ _ _ h=>.inl h);have hle:c.le (c.addBlk h.length w.heap.size):=Ctx.addBlk_le (s.dom h.length (Nat.le_refl _)).1;have hblk:(c.addBlk h.length w.heap.size).blk h.length=some w.heap.size:=by simp[Ctx.addBlk]
 have hb:∀b',qag (c.addBlk h.length w.heap.size) h.length (.map [])=some b'→b'=w.heap.size:=fun b' hb'=>by
  simp only[qag,hblk,Option.some.injEq]at hb';exact hb'.symm
 exact⟨_,hle,s1.push (s.fresh (Nat.le_refl _)) (s.noD (Nat.le_refl _)) ⟨_,#[],0,hblk,heap_alloc_new w _,rfl,fun j k x ce hx _=>by simp at hx,by simp[mapClk]⟩ hb,k1.push s1 k.size hb,hblk⟩
theorem run_makeMap{w:World}{T k e:TypeId}(hT:P.underlying T=some (.map k e)):∀(r:Option Value),(∀v,r=some v→∃q n,v=.int q n)→(Instr.makeMap T r).run P w=.ok (.map (some w.heap.size)) (w.alloc (.map #[] 0))
 |none,_=>by simp[Instr.makeMap,Result.andThen,newObj,Sem.run]
 |some v,h=>by
  obtain⟨q,n,rfl⟩:=h v rfl;simp[Instr.makeMap,run_underlying hT,asInt,asIntOf,Result.andThen]
theorem update_ok{E:Ent}{c:Ctx}{h:qab}{w:World}(s:HSim c h w)(k:E.ok c h w){T kt et:TypeId}{i:Nat}{l:List (ByteArray×AV)}{key:ByteArray}{x:AV}{m v:Value}(hT:qah P T=.map kt et)(hK:qah P kt=.string)
  (hm:Rel c (.mapr i) m) (hx:Rel c x v) (hok:strOk (.string key)=true) (hi:h[i]?=some (.map (qb5 l))) :
  ∃w',(Instr.mapUpdate T m (.string key) v).run P w=.ok () w'∧HSim c (h.set i (.map (qb5 (kvSet l key x)))) w'∧E.ok c (h.set i (.map (qb5 (kvSet l key x)))) w':=by
 obtain⟨b,rfl,hb⟩:=mapr_inv hm;obtain⟨b',ces,clock,g1,g2,g3,g4,g5⟩:=s.obj i _ hi;rw[hb]at g1;cases g1;have hE:=relE_of g3 g4;have hT':=map_und hT;have hK':=str_und hK;have hfind:=run_findKey (P:=P) (w:=w) (kt:=kt) hK' (findNow_kv key l ces.toList 0 hE);rw[kvSet_idx];cases hj:kvIdx l key with
 |none =>
  rw[hj]at hfind;have hE':RelE c (l++[(key,x)]) (ces.push ⟨.string key,v,clock⟩).toList:=by
   refine⟨by simp[hE.1],fun j p ce hp hc=>?_⟩;simp only[Array.toList_push]at hc;by_cases hlt:j<l.length
   ·rw[List.getElem?_append_left hlt]at hp;rw[List.getElem?_append_left (by rw[hE.1];exact hlt)]at hc;exact hE.2 j p ce hp hc
   ·rw[List.getElem?_append_right (by omega)]at hp;rw[List.getElem?_append_right (by rw[hE.1];omega),hE.1]at hc;cases hjl:j - l.length with
    |zero=>rw[hjl]at hp hc;simp at hp hc;subst hp;subst hc;exact⟨⟨rfl,hok⟩,hx⟩
    |succ n=>rw[hjl]at hp;simp at hp
  obtain⟨s',k'⟩:=mapset_ok (clock':=clock+1) s k hi hb g2 hE' (g5.push _ _);refine⟨_,?_,s',k'⟩;simp only[Instr.mapUpdate,Sem.run_bind,run_underlying hT',Result.andThen_ok,run_getObj_map g2,run_checkKey hK' (isKey_str key),hfind,Option.bind_none,run_setObj_map _ g2]
 |some j =>
  rw[hj]at hfind;obtain⟨pv,hp⟩:=kvIdx_key hj;have hlt:j<ces.size:=by have:=kvIdx_lt hj;rw[←hE.1]at this;simpa using this
  have hce:ces.toList[j]?=some ces[j]:=by simp[hlt]
  have hkey:=(hE.2 j _ _ hp hce).1.1;have hE':RelE c (l.set j (key,x)) (ces.modify j fun e=>{ e with key:=.string key,val:=v }).toList:=by
   refine⟨by simpa using hE.1,fun n p ce hp' hc=>?_⟩;have hc':(ces.modify j fun e=>{ e with key:=.string key,val:=v })[n]?=some ce:=by rw[←Array.getElem?_toList];exact hc
   rw[Array.getElem?_modify]at hc';rcases qad hp' with⟨rfl,rfl⟩|⟨hne,h1⟩
   ·rw[if_pos rfl]at hc';simp only[Option.map_eq_some_iff]at hc';obtain⟨e0,_,rfl⟩:=hc';exact⟨⟨rfl,hok⟩,hx⟩
   ·rw[if_neg (Ne.symm hne)]at hc';exact hE.2 n p ce h1 (by simpa using hc')
  obtain⟨s',k'⟩:=mapset_ok (clock':=clock) s k hi hb g2 hE' (g5.modify _ _ _);refine⟨_,?_,s',k'⟩;have hg:ces[j]?=some ces[j]:=by simp[hlt]
  simp only[Instr.mapUpdate,Sem.run_bind,run_underlying hT',Result.andThen_ok,run_getObj_map g2,run_checkKey hK' (isKey_str key),hfind,Option.bind_some,hce,Option.map_some,Nat.zero_add,hg,Option.getD_some,hkey,run_keyThatStays (isKey_str key),run_setObj_map _ g2]
theorem delete_ok{E:Ent}{c:Ctx}{h:qab}{w:World}(s:HSim c h w)(k:E.ok c h w){T T' kt et ty:TypeId}{i:Nat}{l:List (ByteArray×AV)}{key:ByteArray}{m:Value}(hT:qah P T=.map kt et)(hK:qah P kt=.string)
  (hm:Rel c (.mapr i) m) (hi:h[i]?=some (.map (qb5 l))) :
  ∃w',(Builtin.delete_ #[T,T'] ty #[m,.string key]).run P w=.ok (.tuple #[]) w'∧HSim c (h.set i (.map (qb5 (kvDel l key)))) w'∧E.ok c (h.set i (.map (qb5 (kvDel l key)))) w':=by
 obtain⟨b,rfl,hb⟩:=mapr_inv hm;obtain⟨b',ces,clock,g1,g2,g3,g4,g5⟩:=s.obj i _ hi;rw[hb]at g1;cases g1;have hE:=relE_of g3 g4;have hT':=map_und hT;have hK':=str_und hK;have hfind:=run_findKey (P:=P) (w:=w) (kt:=kt) hK' (findNow_kv key l ces.toList 0 hE);rw[kvDel_idx];cases hj:kvIdx l key with
 |none =>
  rw[hj]at hfind;obtain⟨s',k'⟩:=mapset_ok (clock':=clock) s k hi hb g2 hE g5;refine⟨_,?_,s',k'⟩;simp[Builtin.delete_,run_underlying hT',Result.andThen_ok,run_getObj_map g2,run_checkKey hK' (isKey_str key),hfind,run_setObj_map _ g2]
 |some j =>
  rw[hj]at hfind;have hlt:j<ces.size:=by have:=kvIdx_lt hj;rw[←hE.1]at this;simpa using this
  have hce:ces.toList[j]?=some ces[j]:=by simp[hlt]
  have hE':RelE c (l.eraseIdx j) (ces.eraseIdxIfInBounds j).toList:=by
   have hto:(ces.eraseIdxIfInBounds j).toList=ces.toList.eraseIdx j:=by
    simp[Array.eraseIdxIfInBounds,hlt]
   rw[hto];refine⟨by rw[List.length_eraseIdx,List.length_eraseIdx,hE.1],fun n p ce hp hc=>?_⟩;rw[List.getElem?_eraseIdx]at hp hc;split at hp
   ·rename_i hn;rw[if_pos hn]at hc;exact hE.2 n p ce hp hc
   ·rename_i hn;rw[if_neg hn]at hc;exact hE.2 (n+1) p ce hp hc
  obtain⟨s',k'⟩:=mapset_ok (clock':=clock) s k hi hb g2 hE' (g5.erase _);refine⟨_,?_,s',k'⟩;have hce':ces[j]?=some ces[j]:=by simp[hlt]
  simp[Builtin.delete_,run_underlying hT',Result.andThen_ok,run_getObj_map g2,run_checkKey hK' (isKey_str key),hfind,run_setObj_map _ g2,hce']
theorem iterset_ok{E:Ent}{c:Ctx}{h:qab}{w:World}(s:HSim c h w)(k:E.ok c h w){i b:Nat}{st:ByteArray}{p p':Nat}
  (hi:h[i]?=some (.iter st p)) (hb:c.blk i=some b) (hh:w.heap[b]?=some (.stringIter st p)) :
  HSim c (h.set i (.iter st p')) { w with heap:=w.heap.setIfInBounds b (.stringIter st p') }∧E.ok c (h.set i (.iter st p')) { w with heap:=w.heap.setIfInBounds b (.stringIter st p') }:=by
 have hlt:b<w.heap.size:=(Array.getElem?_eq_some_iff.1 hh).1;have hoth:∀g,g≠b→({ w with heap:=w.heap.setIfInBounds b (.stringIter st p') }:World).heap[g]?=w.heap[g]?:=fun g hg=>(heap_set hh).2 g hg;have hbo:qag c i (.iter st p)=some b:=hb;have hsize:({ w with heap:=w.heap.setIfInBounds b (.stringIter st p') }:World).heap.size=w.heap.size:=by simp
 have holt:∀j o b',(h.set i (.iter st p'))[j]?=some o→qag c j o=some b'→∃o0,h[j]?=some o0∧qag c j o0=some b':=fun j o b' hj hb'=>by
  rcases qad hj with⟨rfl,rfl⟩|⟨hne,h1⟩
  ·exact⟨_,hi,hb'⟩
  ·exact⟨o,h1,hb'⟩
 constructor
 ·refine⟨fun g j v hD=>?_,fun j hj=>s.dom j (by simpa using hj),fun j o hj=>?_,fun j j' o o' b' hj hj' hb1 hb2=>?_,fun j o b' m v hj hb1 hD=>?_⟩
  ·have hg:g≠b:=fun e=>by
    subst e;exact s.sep i _ g j v hi hbo hD
   rw[World.cell?_of_block (w:=w) (hoth g hg)];exact s.data g j v hD
  ·rcases qad hj with⟨rfl,rfl⟩|⟨hne,h1⟩
   ·exact⟨b,hb,(heap_set hh).1⟩
   ·refine(s.obj j o h1).keep (.refl c) (fun _=>rfl) fun b' hb'=>hoth b' fun e=>hne ?_;subst e;exact s.apart j i o _ b' h1 hi hb' hbo
  ·obtain⟨o1,h1,h1'⟩:=holt j o b' hj hb1;obtain⟨o2,h2,h2'⟩:=holt j' o' b' hj' hb2;exact s.apart j j' o1 o2 b' h1 h2 h1' h2'
  ·rcases qad hj with⟨rfl,rfl⟩|⟨hne,h1⟩
   ·have:=s.sep j (.iter st p) b' m v hi hb1 hD;exact this
   ·exact s.sep j o b' m v h1 hb1 hD
 ·refine⟨k.edom,k.ext,k.blk0,by simpa using k.len,k.os,k.tape,k.output,by rw[hsize];exact k.size,fun g hg hno=>?_,fun j o b' hj hb1=>?_,k.dold⟩
  ·have hne:g≠b:=fun e=>by
    subst e;rcases k.newobj i _ g hi hbo with⟨o0,h0,h1⟩|h2
    ·exact hno i o0 h0 h1
    ·omega
   rw[hoth g hne];exact k.frame g hg hno
  ·obtain⟨o1,h1,h1'⟩:=holt j o b' hj hb1;exact k.newobj j o1 b' h1 h1'
theorem newiter_ok{E:Ent}{c:Ctx}{h:qab}{w:World}(s:HSim c h w)(k:E.ok c h w)(st:ByteArray) :
  ∃c',c.le c'∧HSim c' (h++[.iter st 0]) (w.alloc (.stringIter st 0))∧E.ok c' (h++[.iter st 0]) (w.alloc (.stringIter st 0))∧c'.blk h.length=some w.heap.size:=by
 have hw:∀b,b<w.heap.size→(w.alloc (.stringIter st 0)).heap[b]?=w.heap[b]?:=fun b hb=>heap_alloc_old w _ b hb;have s1:HSim c h (w.alloc (.stringIter st 0)):=s.ext hw (.refl c) (fun _ _=>rfl) (fun _ _ _ h=>.inl h) s.dom;have k1:E.ok c h (w.alloc (.stringIter st 0)):=k.ext' s hw (.refl c) (fun _=>rfl) rfl rfl rfl (alloc_le w _) (fun _ _ _ h=>.inl h);have hle:c.le (c.addBlk h.length w.heap.size):=Ctx.addBlk_le (s.dom h.length (Nat.le_refl _)).1;have hblk:(c.addBlk h.length w.heap.size).blk h.length=some w.heap.size:=by simp[Ctx.addBlk]
 have hb:∀b',qag (c.addBlk h.length w.heap.size) h.length (.iter st 0)=some b'→b'=w.heap.size:=fun b' hb'=>by
  simp only[qag,hblk,Option.some.injEq]at hb';exact hb'.symm
 exact⟨_,hle,s1.push (s.fresh (Nat.le_refl _)) (s.noD (Nat.le_refl _)) ⟨_,hblk,heap_alloc_new w _⟩ hb,k1.push s1 k.size hb,hblk⟩
theorem run_range_str{w:World}{T:TypeId}(hT:P.underlying T=some .string)(st:ByteArray):(Instr.range T (.string st)).run P w=.ok (.pointer (some ⟨w.heap.size,0,none⟩)) (w.alloc (.stringIter st 0)):=by
 simp[Instr.range,run_underlying hT,Result.andThen]
theorem run_next_str{w:World}{b:Nat}{st:ByteArray}{p:Nat}(hb:w.heap[b]?=some (.stringIter st p))(ty:TypeId) :
  (Instr.next (.pointer (some ⟨b,0,none⟩)) true ty).run P w =
   if p<st.size then .ok (.tuple #[.bool true,goInt p,.int .i32 (Utf8.decode st p).1]) { w with heap:=w.heap.setIfInBounds b (.stringIter st (p+(Utf8.decode st p).2)) }
   else .ok (.tuple #[.bool false]) w:=by
 have hg:(getObj b).run P w=.ok (.stringIter st p) w:=by simp[getObj,Sem.run,hb]
 have hs:∀o,(setObj b o).run P w=.ok () { w with heap:=w.heap.setIfInBounds b o }:=fun o=>by simp[setObj,Sem.run,hb]
 by_cases h:p<st.size
 ·simp only[Instr.next,Sem.run_bind,hg,Result.andThen_ok,if_pos h,hs,Sem.run_pure]
 ·simp only[Instr.next,Sem.run_bind,hg,Result.andThen_ok,if_neg h,Sem.run_pure]
end
end Go.Abs
