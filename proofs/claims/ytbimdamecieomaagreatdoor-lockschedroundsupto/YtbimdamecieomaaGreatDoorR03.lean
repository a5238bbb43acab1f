/- Part 3 of a proof. -/
import Derived.DeepKeys
import Derived.MapKept
import Derived.Test.YtbimdamecieomaaGreatDoorR02
set_option linter.all false
namespace Go.Abs
def nl:List TK→List Value→Prop
 | [],[]=>True
 | .bool::ks,.bool _::xs=>nl ks xs
 | .int k::ks,.int k' _::xs=>k'=k∧nl ks xs
 | .string::ks,.string _::xs=>nl ks xs
 |_,_=>False
def x7:List Value→List Value→Bool
 | [],[]=>true
 | .bool a::xs,.bool b::ys=>decide (a=b)&&x7 xs ys
 | .int _ a::xs,.int _ b::ys=>decide (a=b)&&x7 xs ys
 | .string a::xs,.string b::ys=>decide (a=b)&&x7 xs ys
 |_,_=>false
def mkV(P:Program)(t:TypeId)(cs:List Value):Value :=
 match P.underlying t with
 |some (.struct _)=>.agg cs.toArray
 |_=>cs.headD undef
theorem qt5:∀{ks:List TK} {xs:List Value},nl ks xs→xs.length=ks.length
 | [],[],_=>rfl
 | [],_::_,h=>by simp[nl]at h
 |k::ks,[],h=>by cases k<;>simp[nl]at h
 |k::ks,x::xs,h=>by
  cases k<;>cases x<;>simp only[nl]at h<;>first|(exact h.elim)|skip
  ·simp[qt5 h]
  ·simp[qt5 h.2]
  ·simp[qt5 h]
theorem xbw:∀{ks ks':List TK} {l:List Value},nl (ks++ks') l→nl ks (l.take ks.length)∧nl ks' (l.drop ks.length)
 | [],ks',l,h=>⟨by simp[nl],bh⟩
 |k::ks,ks',[],h=>by cases k<;>simp[nl]at h
 |k::ks,ks',x::xs,h=>by
  cases k<;>cases x<;>simp only[qlg,nl]at h<;>first|(exact h.elim)|skip
  ·simpa[nl]using xbw h
  ·have:=xbw h.2;simpa[nl,h.1]using this
  ·simpa[nl]using xbw h
theorem xep:∀{ks:List TK} {a b c d:List Value},nl ks a→nl ks b→x7 (a++c) (b++d)=(x7 a b&&x7 c d)
 | [],a,b,c,d,ha,hb=>by
  have h1:=qt5 ha;have h2:=qt5 hb;simp at h1 h2;subst h1;subst h2;simp[x7]
 |k::ks,[],b,c,d,ha,hb=>by cases k<;>simp[nl]at ha
 |k::ks,x::a,[],c,d,ha,hb=>by cases k<;>simp[nl]at hb
 |k::ks,x::a,y::b,c,d,ha,hb=>by
  cases k<;>cases x<;>simp only[nl]at ha<;>first|(exact ha.elim)|skip
  all_goals cases y<;>simp only[nl]at hb<;>first|(exact hb.elim)|skip
  ·simp[x7,xep (c:=c) (d:=d) ha hb,Bool.and_assoc]
  ·simp[x7,xep (c:=c) (d:=d) ha.2 hb.2,Bool.and_assoc]
  ·simp[x7,xep (c:=c) (d:=d) ha hb,Bool.and_assoc]
section
variable {P:Program} {w:World}
def xpi(P:Program)(w:World)(n:Nat)(t:TypeId)(ks:List TK):Prop :=
 ∀xs ys:List Value,nl ks xs→nl ks ys→(Op.equalIn n t (mkV P t xs) (mkV P t ys)).run P w=.ok (x7 xs ys) w
theorem xvx{d:Nat}{t:TypeId}{ks:List TK}(h:qo8 P d t=some ks):∃kd,P.underlying t=some kd:=by
 cases d with
 |zero=>simp[qo8]at h
 |succ d =>
  unfold qo8 at h;split at h<;>first|exact⟨_,by assumption⟩|cases h
theorem xo9{d:Nat}{t:TypeId}{ks:List TK}(h:qo8 P d t=some ks)(hl:ks.length=P.cellsOf t){xs:Array Value}{off:Nat}(hf:nl ks ((xs.toList.drop off).take ks.length)) :
  (part t xs off).run P w=.ok (mkV P t ((xs.toList.drop off).take ks.length)) w:=by
 obtain⟨kd,hu⟩:=xvx h;obtain⟨i,hi⟩:=info_of_underlying hu;have one:∀k,ks=[k]→(∀fs,kd≠.struct fs)→(∀n e,kd≠.array n e)→(part t xs off).run P w=.ok (mkV P t ((xs.toList.drop off).take ks.length)) w:=by
  intro k hk hns hna;subst hk;have jr:=qt5 hf;have hoff:off<xs.size:=by
   simp at jr;omega
  have hx:xs[off]?=some xs[off]:=by simp[hoff]
  have hm:mkV P t ((xs.toList.drop off).take 1)=xs[off]:=by
   have hd:((xs.toList.drop off).take 1).headD undef=xs[off]:=by
    rw[ql1 (by simpa using hoff)];simp
   unfold mkV;rw[hu];cases kd<;>first|(exact(hns _ rfl).elim)|exact hd
  simp only[f8,hm];have hagg:(isAgg t).run P w=.ok false w:=by
   simp only[isAgg,dh,run_underlying hu,dj];cases kd<;>first|(exact(hns _ rfl).elim)|(exact(hna _ _ rfl).elim)|rfl
  simp only[part,dh,hagg,dj,fw,if_false,hx,dy]
 cases d with
 |zero=>simp[qo8]at h
 |succ d =>
  unfold qo8 at h;rw[hu]at h;split at h
  ·rename_i hk;cases hk;cases h;exact one _ rfl ae ae
  ·rename_i k hk;cases hk;cases h;exact one _ rfl ae ae
  ·rename_i hk;cases hk;cases h;exact one _ rfl ae ae
  ·rename_i fs hk;cases hk;have hagg:(isAgg t).run P w=.ok true w:=by
    simp only[isAgg,dh,run_underlying hu,dj];rfl
   have hm:mkV P t ((xs.toList.drop off).take ks.length)=.agg (xs.extract off (off+P.cellsOf t)):=by
    unfold mkV;rw[hu];simp only[Value.agg.injEq];apply gu;rw[Array.toList_extract,hl];simp[List.extract]
   rw[hm];simp only[part,dh,hagg,dj,if_true,run_sizeOf w hi,dy]
  ·cases h
theorem xrs{n d:Nat}(IH:∀t ks,qo8 P d t=some ks→xpi P w n t ks):∀(fs:List Field) (off:Nat) (ks:List TK),xcx (qo8 P d) P off fs=some ks →
  ∀xs ys:Array Value,nl ks (xs.toList.drop off)→nl ks (ys.toList.drop off)→(Op.eqFields n xs ys fs).run P w=.ok (x7 (xs.toList.drop off) (ys.toList.drop off)) w
 | [],off,ks,h,xs,ys,hx,hy=>by
  simp only[xcx,d7]at h;subst h;have h1:=qt5 hx;have h2:=qt5 hy;have e1:xs.toList.drop off=[]:=ql8.1 av;have e2:ys.toList.drop off=[]:=ql8.1 ca;rw[e1,e2];simp[Op.eqFields,x7]
 |f::fs,off,ks,h,xs,ys,hx,hy=>by
  simp only[xcx]at h;split at h
  ·rename_i hn;obtain⟨u7,rfl⟩:=hn;split at h
   ·rename_i k1 hk1;split at h
    ·rename_i jr;simp only[dn]at h;obtain⟨k2,q9,rfl⟩:=h;obtain⟨x1,x2⟩:=xbw hx;obtain⟨y1,y2⟩:=xbw hy;rw[List.drop_drop]at x2 y2;have p1:=xo9 (w:=w) hk1 jr x1;have p2:=xo9 (w:=w) hk1 jr y1;have p3:=IH f.type k1 hk1 _ _ x1 y1;have p4:=xrs IH fs (f.offset+k1.length) k2 q9 xs ys x2 y2;have qx0:∀zs:Array Value,zs.toList.drop f.offset=(zs.toList.drop f.offset).take k1.length++zs.toList.drop (f.offset+k1.length):=fun zs=>by
      rw[←List.drop_drop,qlh]
     rw[qx0 xs,qx0 ys,xep x1 y1];simp only[Op.eqFields,u7,ne_eq,not_false_eq_true,if_true,dh,p1,p2,p3,dj];cases x7 ((xs.toList.drop f.offset).take k1.length) ((ys.toList.drop f.offset).take k1.length)with
     |false=>simp
     |true=>simpa using p4
    ·cases h
   ·cases h
  ·cases h
theorem xs6:∀(d:Nat) (n:Nat) (t:TypeId) (ks:List TK),qo8 P d t=some ks→xpi P w (n+d) t ks
 | 0,_,_,_,h=>by simp[qo8]at h
 |d+1,n,t,ks,h=>by
  intro xs ys hx hy;unfold qo8 at h;obtain⟨kd,hu⟩:∃kd,P.underlying t=some kd:=by split at h<;>first|exact⟨_,by assumption⟩|cases h
  rw[hu]at h;have one:∀k,ks=[k]→∃x y,xs=[x]∧ys=[y]:=fun k hk=>by
   subst hk;exact⟨_,_,(List.length_eq_one_iff.1 (qt5 hx)).choose_spec,(List.length_eq_one_iff.1 (qt5 hy)).choose_spec⟩
  split at h
  ·rename_i hk;cases hk;cases h;obtain⟨x,y,rfl,rfl⟩:=one _ rfl;cases x<;>simp only[nl]at hx;cases y<;>simp only[nl]at hy;rename_i a b;simp only[mkV,hu,List.headD_cons,x7,fl];rw[show n+(d+1)=(n+d)+1 from rfl,run_equalIn_bool w (n+d) t a b hu];cases a<;>cases b<;>rfl
  ·rename_i k hk;cases hk;cases h;obtain⟨x,y,rfl,rfl⟩:=one _ rfl;cases x<;>simp only[nl]at hx;cases y<;>simp only[nl]at hy;rename_i k1 a k2 b;obtain rfl:=hx.1;obtain rfl:=hy.1;simp only[mkV,hu,List.headD_cons,x7,fl];rw[show n+(d+1)=(n+d)+1 from rfl,run_equalIn_int w (n+d) t _ _ a b hu];rfl
  ·rename_i hk;cases hk;cases h;obtain⟨x,y,rfl,rfl⟩:=one _ rfl;cases x<;>simp only[nl]at hx;cases y<;>simp only[nl]at hy;rename_i a b;simp only[mkV,hu,List.headD_cons,x7,fl];rw[show n+(d+1)=(n+d)+1 from rfl,run_equalIn_string w (n+d) t a b hu];congr 1;rw[ByteArray.toList_eq,ByteArray.toList_eq];by_cases wt:a=b
   ·subst wt;simp
   ·have:a.data.toList≠b.data.toList:=fun e=>wt (by cases a;cases b;simp at e;simp[e]);rw[beq_eq_false_iff_ne.2 this,decide_eq_false wt]
  ·rename_i fs hk;cases hk;split at h
   ·cases h
   ·rename_i mj;have hfs:P.fieldsOf t=fs:=by simp[Program.fieldsOf,hu]
    have:=xrs (n:=n+d) (fun t ks h=>xs6 d n t ks h) fs.toList 0 ks h xs.toArray ys.toArray qj4 (by simpa using hy);simp only[mkV,hu];rw[show n+(d+1)=(n+d)+1 from rfl,run_equalIn_struct w (n+d) t _ _ (by rw[hfs];exact hu) (by simpa using mj),hfs,this];simp
  ·cases h
end
end Go.Abs
namespace Go.Abs
open Go.MapKept
theorem xfq:∀{es:List (AV×AV)} {l:List (ByteArray×AV)},strKeys es=some l→es=qj l
 | [],l,h=>by simp[strKeys]at h;subst h;rfl
 |(k,v)::es,l,h=>by
  unfold strKeys at h;split at h
  ·rename_i h1;cases h1
  ·rename_i s' v' l' h1;cases h1;simp only[dn]at h;obtain⟨l2,h2,rfl⟩:=h;rw[xfq h2];rfl
  ·cases h
theorem xok{c:Ctx}{x v:Value}(h:Rel c (.val x) v):v=x:=by
 cases h with
 |data h=>cases h;rfl
 |val=>rfl
theorem qsm{c:Ctx}{x v:Value}(h:Rel c (.val x) v):zz x=true:=by
 cases h with
 |data h=>cases h with|val _ _ hs=>exact hs
 |val _ hs=>exact hs
def qwb(c:Ctx)(l:List (ByteArray×AV))(lz:List MapEntry):Prop :=
 lz.length=l.length∧∀(j:Nat) (p:ByteArray×AV) (ce:MapEntry),l[j]?=some p→lz[j]?=some ce→(ce.key=.string p.1∧zz (.string p.1)=true)∧Rel c p.2 ce.val
def yb:List (ByteArray×AV)→ByteArray→Option Nat
 | [],_=>none
 |p::l,s=>if p.1=s then some 0 else(yb l s).map (· + 1)
theorem xnj:∀{l:List (ByteArray×AV)} {s:ByteArray} {j:Nat},yb l s=some j→j<l.length
 | [],_,_,h=>by cases h
 |p::l,s,j,h=>by
  simp only[yb]at h;split at h
  ·cases h;simp
  ·simp only[dn]at h;obtain⟨j',h,rfl⟩:=h;have:=xnj h;simpa using this
theorem xkf:∀{l:List (ByteArray×AV)} {s:ByteArray} {j:Nat},yb l s=some j→∃v,l[j]?=some (s,v)
 | [],_,_,h=>by cases h
 |p::l,s,j,h=>by
  simp only[yb]at h;split at h
  ·rename_i hp;cases h;exact⟨p.2,by simp[←hp]⟩
  ·simp only[dn]at h;obtain⟨j',h,rfl⟩:=h;simpa using xkf h
theorem xut:∀(l:List (ByteArray×AV)) (s:ByteArray),qto l s=(yb l s).bind fun j=>(l[j]?).map (·.2)
 | [],_=>rfl
 |p::l,s=>by
  simp only[qto,yb];split
  ·simp
  ·rw[xut l s];cases yb l s<;>simp
theorem xpj:∀(l:List (ByteArray×AV)) (s:ByteArray) (v:AV),qua l s v=match yb l s with|some j=>l.set j (s,v)|none=>l++[(s,v)]
 | [],_,_=>rfl
 |p::l,s,v=>by
  simp only[qua,yb];split
  ·rfl
  ·rw[xpj l s v];cases yb l s<;>simp
theorem xwl:∀(l:List (ByteArray×AV)) (s:ByteArray),qwm l s=match yb l s with|some j=>l.eraseIdx j|none=>l
 | [],_=>rfl
 |p::l,s=>by
  simp only[qwm,yb];split
  ·rfl
  ·rw[xwl l s];cases yb l s<;>simp
theorem xex{c:Ctx}(s:ByteArray):∀(l:List (ByteArray×AV)) (lz:List MapEntry) (i:Nat),qwb c l lz →
  Instr.findNow .string (.string s) lz i=some ((yb l s).bind fun j=>(lz[j]?).map fun e=>(i+j,e.val))
 | [],lz,i,h=>by
  have:=ql8.1 h.1;subst this;rfl
 |p::l,[],i,h=>by have:=h.1;simp at this
 |p::l,ce::lz,i,h=>by
  have h0:=(h.2 0 p ce rfl rfl).1.1;have ht:qwb c l lz:=⟨by simpa using h.1,fun j p ce hp hc=>h.2 (j+1) p ce qha qf2⟩
  simp only[Instr.findNow,h0,Instr.sameNow,yb];by_cases hs:p.1=s
  ·rw[if_pos hs];have:(s == p.1)=true:=by rw[hs];exact(bytes_beq _ _).2 rfl
   simp[this]
  ·rw[if_neg hs];have:(s == p.1)=false:=by
    cases hb:s == p.1 with
    |false=>rfl
    |true=>exact(hs ((bytes_beq _ _).1 hb).symm).elim
   simp only[this];rw[xex s l lz (i+1) ht];cases yb l s with
   |none=>rfl
   |some j =>
    simp only[f5,fx,qk9];congr 2;funext e;rw[show i+1+j=i+(j+1)from by omega]
section
variable {P:Program} {w:World}
theorem xic{c:Ctx}{l:List (ByteArray×AV)}{lz:Array MapEntry}(hl:lz.size=(qj l).length)(h:∀(j:Nat) (k x:AV) (ce:MapEntry),(qj l)[j]?=some (k,x)→lz[j]?=some ce→Rel c k ce.key∧Rel c x ce.val):qwb c l lz.toList :=
 ⟨by simpa[qj]using hl,fun j p ce hp hc=>by
  have:=h j (.val (.string p.1)) p.2 ce (by simp[qj,hp]) qf2;exact⟨⟨xok this.1,qsm this.1⟩,this.2⟩⟩
theorem jdz{c:Ctx}{l:List (ByteArray×AV)}{lz:Array MapEntry}(h:qwb c l lz.toList):lz.size=(qj l).length∧∀(j:Nat) (k x:AV) (ce:MapEntry),(qj l)[j]?=some (k,x)→lz[j]?=some ce→Rel c k ce.key∧Rel c x ce.val :=
 ⟨by simpa[qj]using h.1,fun j k x ce hk hc=>by
  simp only[qj,dq,dn,qlp]at hk;obtain⟨p,hp,rfl,rfl⟩:=hk;obtain⟨h1,h2⟩:=h.2 j p ce hp qf2;exact⟨by rw[h1.1];exact .val _ h1.2,h2⟩⟩
theorem xkg{c:Ctx}{e:TypeId}{z:AV}(h:qvt P e=some z):∃v,(zeroValue e).run P w=.ok v w∧Rel c z v:=by
 unfold qvt at h;split at h
 ·rename_i i hi;have jx:∀v,i.zero=some v→(zeroValue e).run P w=.ok v w:=fun v hv=>by
   simp only[zeroValue,dh,run_typeInfo w hi,dj,hv];simp
  split at h
  ·rename_i vs hz;split at h
   ·rename_i m7;cases h;refine⟨_,jx _ hz,.agg _ _ ae (fun j v hv=>dw.1 m7 v (by simpa using Array.mem_of_getElem? hv)) fun j x v hx hv=>?_⟩;simp only[dq,dn]at hx;obtain⟨u,hu,rfl⟩:=hx;have:u=v:=by
     have ph:vs.toList[j]?=some v:=bx;rw[hu]at ph;cases ph;rfl
    subst this;exact xba c _
   ·cases h
  ·rename_i z' _ hz;cases h;exact⟨_,jx _ hz,xba c _⟩
  ·cases h
 ·cases h
theorem xdy{T k e:TypeId}(h:ij P T=.map k e):P.underlying T=some (.map k e):=by
 unfold ij at h;cases ht:ti P T with
 |none=>rw[ht]at h;cases h
 |some x =>
  rw[ht]at h;obtain⟨i,d,z,_,h4,_,rfl,_⟩:=qvk ht;rw[h4];simp only at h;cases d<;>simp only[nj]at h<;>first|(split at h<;>cases h)|(cases h;done)|skip
  cases h;rfl
theorem xdf{T:TypeId}(h:ij P T=.string):P.underlying T=some .string:=by
 unfold ij at h;cases ht:ti P T with
 |none=>rw[ht]at h;cases h
 |some x =>
  rw[ht]at h;obtain⟨i,d,z,_,h4,_,rfl,_⟩:=qvk ht;rw[h4];simp only at h;cases d<;>simp only[nj]at h<;>first|rfl|(split at h<;>cases h)|cases h
theorem xik{c:Ctx}{i:Nat}{v:Value}(h:Rel c (.mapr i) v):∃b,v=.map (some b)∧c.blk i=some b:=by
 cases h with
 |data h=>cases h
 |mapr i b h=>exact⟨b,rfl,h⟩
theorem qye(s:ByteArray):IsKey .string (.string s):=by simp[IsKey]
theorem jml{c:Ctx}{h:gz}(hs:HSim c h w){T:TypeId}{x i:AV}{u v:Value}(hx:Rel c x u)(hi:Rel c i v){ok:Bool}(iq:(qwa P T x i ok h).side) :
  ∃r,(Instr.lookup T u v ok).run P w=.ok r w∧Rel c (qwa P T x i ok h).val r:=by
 unfold qwa at iq⊢;split at iq
 ·rename_i k e o s hk;split at iq
  ·rename_i es hes;split at iq
   ·rename_i l z hl hz;simp only[hes,hl,hz];obtain rfl:=xfq hl;obtain⟨b,rfl,hb⟩:=xik hx;obtain rfl:=xok hi;obtain⟨b',lz,clock,g1,g2,g3,g4⟩:=hs.obj o _ hes;rw[hb]at g1;cases g1;have hE:=xic g3 g4;have hT:=xdy hk;have hK:=xdf iq;obtain⟨zv,hzr,hzrel⟩:=xkg (P:=P) (w:=w) (c:=c) hz;have u3:=run_findKey (P:=P) (w:=w) (kt:=k) hK (xex s l lz.toList 0 hE);have jx:∃rv:Value×Bool,(Instr.lookup T (.map (some b)) (.string s) ok).run P w=.ok (if ok then .tuple #[rv.1,.bool rv.2]else rv.1) w∧Rel c ((qto l s).getD z) rv.1∧rv.2=(qto l s).isSome:=by
     rw[xut];cases hj:yb l s with
     |none =>
      rw[hj]at u3;refine⟨(zv,false),?_,hzrel,rfl⟩;simp only[Instr.lookup,dh,run_underlying hT,dj,run_getObj_map g2,dy,run_checkKey hK (qye s),u3,Option.bind_none,hzr]
     |some j =>
      rw[hj]at u3;obtain⟨pv,hp⟩:=xkf hj;have ib:j<lz.toList.length:=by rw[hE.1];exact xnj hj
      have hce:lz.toList[j]?=some lz.toList[j]:=bp;refine⟨(lz.toList[j].val,true),?_,?_,by simp[hp]⟩
      ·simp only[Instr.lookup,dh,run_underlying hT,dj,run_getObj_map g2,dy,run_checkKey hK (qye s),u3,f5,hce,fx]
      ·simp only[f5,hp,fx,f9];exact(hE.2 j _ _ hp hce).2
    obtain⟨rv,jx,hr2,hr3⟩:=jx;refine⟨_,jx,?_⟩;cases ok with
    |false=>exact hr2
    |true =>
     refine .tuple _ _ ae fun j x v hx hv=>?_
     match j with
     | 0=>simp at hx hv;subst hx;subst hv;exact hr2
     | 1=>simp at hx hv;subst hx;subst hv;rw[hr3];exact .val _
     |j+2=>simp at hx
   ·exact iq.elim
  ·exact iq.elim
 ·exact iq.elim
end
section
variable {P:Program}
theorem xef{E:Ent}{c:Ctx}{h:gz}{w:World}(s:HSim c h w)(k:E.ok c h w){i b:Nat}{l l':List (ByteArray×AV)}{lz qzz:Array MapEntry}{clock clock':Nat}
  (hi:h[i]?=some (.map (qj l))) (hb:c.blk i=some b) (hh:w.heap[b]?=some (.map lz clock)) (hE:qwb c l' qzz.toList) :
  HSim c (h.set i (.map (qj l'))) { w with heap:=w.heap.setIfInBounds b (.map qzz clock') }∧E.ok c (h.set i (.map (qj l'))) { w with heap:=w.heap.setIfInBounds b (.map qzz clock') }:=by
 have ib:b<w.heap.size:=(f0.1 hh).1;have o9:∀g,g≠b→({ w with heap:=w.heap.setIfInBounds b (.map qzz clock') }:World).heap[g]?=w.heap[g]?:=fun g hg=>(heap_set hh).2 g hg;have px:jb c i (.map (qj l))=some b:=hb;have pr:({ w with heap:=w.heap.setIfInBounds b (.map qzz clock') }:World).heap.size=w.heap.size:=ae;have o7:∀j o b',(h.set i (.map (qj l')))[j]?=some o→jb c j o=some b'→∃o0,h[j]?=some o0∧jb c j o0=some b':=fun j o b' hj il=>by
  rcases l7 hj with⟨rfl,rfl⟩|⟨ii,h1⟩
  ·exact⟨_,hi,il⟩
  ·exact⟨o,h1,il⟩
 obtain⟨e1,e2⟩:=jdz hE;constructor
 ·refine⟨fun g j v hD=>?_,fun j hj=>s.dom j bf,fun j o hj=>?_,fun j j' o o' b' hj oq jw li=>?_,fun j o b' m v hj jw hD=>?_⟩
  ·have hg:g≠b:=fun e=>by
    subst e;exact s.sep i _ g j v hi px hD
   rw[World.cell?_of_block (w:=w) (o9 g hg)];exact s.data g j v hD
  ·rcases l7 hj with⟨rfl,rfl⟩|⟨ii,h1⟩
   ·exact⟨b,qzz,clock',hb,(heap_set hh).1,e1,e2⟩
   ·refine(s.obj j o h1).keep (.refl c) (fun _=>rfl) fun b' il=>o9 b' fun e=>ii ?_;subst e;exact s.apart j i o _ b' h1 hi il px
  ·obtain⟨o1,h1,ll⟩:=o7 j o b' hj jw;obtain⟨o2,h2,vo⟩:=o7 j' o' b' oq li;exact s.apart j j' o1 o2 b' h1 h2 ll vo
  ·rcases l7 hj with⟨rfl,rfl⟩|⟨ii,h1⟩
   ·have:=s.sep j (.map (qj l)) b' m v hi jw hD;exact this
   ·exact s.sep j o b' m v h1 jw hD
 ·refine⟨k.edom,k.ext,k.blk0,bz,k.os,k.tape,k.output,qig,fun g hg iz=>?_,fun j o b' hj jw=>?_,k.dold⟩
  ·have ii:g≠b:=fun e=>by
    subst e;rcases k.newobj i _ g hi px with⟨o0,h0,h1⟩|h2
    ·exact iz i o0 h0 h1
    ·omega
   rw[o9 g ii];exact k.frame g hg iz
  ·obtain⟨o1,h1,ll⟩:=o7 j o b' hj jw;exact k.newobj j o1 b' h1 ll
theorem jb5{E:Ent}{c:Ctx}{h:gz}{w:World}(s:HSim c h w)(k:E.ok c h w) :
  ∃c',c.le c'∧HSim c' (h++[.map []]) (w.alloc (.map #[] 0))∧E.ok c' (h++[.map []]) (w.alloc (.map #[] 0))∧c'.blk h.length=some w.heap.size:=by
 have hw:∀b,b<w.heap.size→(w.alloc (.map #[] 0)).heap[b]?=w.heap[b]?:=fun b hb=>heap_alloc_old w _ b hb;have s1:HSim c h (w.alloc (.map #[] 0)):=s.ext hw (.refl c) (fun _ _=>rfl) (fun _ _ _ h=>.inl h) s.dom;have k1:E.ok c h (w.alloc (.map #[] 0)):=k.ext' s hw (.refl c) (fun _=>rfl) rfl rfl rfl (qfg w _) (fun _ _ _ h=>.inl h);have ig:c.le (c.addBlk h.length w.heap.size):=Ctx.addBlk_le (s.dom h.length (ct _)).1;have sn:(c.addBlk h.length w.heap.size).blk h.length=some w.heap.size:=qh4;have hb:∀b',jb (c.addBlk h.length w.heap.size) h.length (.map [])=some b'→b'=w.heap.size:=fun b' il=>by
  simp only[jb,sn,d7]at il;exact il.symm
 exact⟨_,ig,s1.push (s.fresh (ct _)) (s.noD (ct _)) ⟨_,#[],0,sn,heap_alloc_new w _,rfl,fun j k x ce hx _=>by simp at hx⟩ hb,k1.push s1 k.size hb,sn⟩
theorem run_makeMap{w:World}{T k e:TypeId}(hT:P.underlying T=some (.map k e)):∀(r:Option Value),(∀v,r=some v→∃q n,v=.int q n)→(Instr.makeMap T r).run P w=.ok (.map (some w.heap.size)) (w.alloc (.map #[] 0))
 |none,_=>by simp[Instr.makeMap,Result.andThen,newObj,Sem.run]
 |some v,h=>by
  obtain⟨q,n,rfl⟩:=h v rfl;simp[Instr.makeMap,run_underlying hT,asInt,asIntOf,Result.andThen]
theorem jls{E:Ent}{c:Ctx}{h:gz}{w:World}(s:HSim c h w)(k:E.ok c h w){T kt et:TypeId}{i:Nat}{l:List (ByteArray×AV)}{key:ByteArray}{x:AV}{m v:Value}(hT:ij P T=.map kt et)(hK:ij P kt=.string)
  (hm:Rel c (.mapr i) m) (hx:Rel c x v) (jm:zz (.string key)=true) (hi:h[i]?=some (.map (qj l))) :
  ∃w',(Instr.mapUpdate T m (.string key) v).run P w=.ok () w'∧HSim c (h.set i (.map (qj (qua l key x)))) w'∧E.ok c (h.set i (.map (qj (qua l key x)))) w':=by
 obtain⟨b,rfl,hb⟩:=xik hm;obtain⟨b',lz,clock,g1,g2,g3,g4⟩:=s.obj i _ hi;rw[hb]at g1;cases g1;have hE:=xic g3 g4;have hT':=xdy hT;have hK':=xdf hK;have u3:=run_findKey (P:=P) (w:=w) (kt:=kt) hK' (xex key l lz.toList 0 hE);rw[xpj];cases hj:yb l key with
 |none =>
  rw[hj]at u3;have wz:qwb c (l++[(key,x)]) (lz.push ⟨.string key,v,clock⟩).toList:=by
   refine⟨by simp[hE.1],fun j p ce hp hc=>?_⟩;simp only[Array.toList_push]at hc;by_cases ib:j<l.length
   ·rw[cu ib]at hp;rw[cu (by rw[hE.1];exact ib)]at hc;exact hE.2 j p ce hp hc
   ·rw[cy aa]at hp;rw[cy (by rw[hE.1];omega),hE.1]at hc;cases se:j - l.length with
    |zero=>rw[se]at hp hc;simp at hp hc;subst hp;subst hc;exact⟨⟨rfl,jm⟩,hx⟩
    |succ n=>rw[se]at hp;simp at hp
  obtain⟨s',k'⟩:=xef (clock':=clock+1) s k hi hb g2 wz;refine⟨_,?_,s',k'⟩;simp only[Instr.mapUpdate,dh,run_underlying hT',dj,run_getObj_map g2,run_checkKey hK' (qye key),u3,Option.bind_none,run_setObj_map _ g2]
 |some j =>
  rw[hj]at u3;obtain⟨pv,hp⟩:=xkf hj;have ib:j<lz.size:=qjh;have hce:lz.toList[j]?=some lz[j]:=bp;have qyt:=(hE.2 j _ _ hp hce).1.1;have wz:qwb c (l.set j (key,x)) (lz.modify j fun e=>{ e with key:=.string key,val:=v }).toList:=by
   refine⟨by simpa using hE.1,fun n p ce hp' hc=>?_⟩;have qh:(lz.modify j fun e=>{ e with key:=.string key,val:=v })[n]?=some ce:=by rw[←fc];exact hc
   rw[Array.getElem?_modify]at qh;rcases l7 hp' with⟨rfl,rfl⟩|⟨ii,h1⟩
   ·rw[if_pos rfl]at qh;simp only[dn]at qh;obtain⟨e0,_,rfl⟩:=qh;exact⟨⟨rfl,jm⟩,hx⟩
   ·rw[if_neg (Ne.symm ii)]at qh;exact hE.2 n p ce h1 (by simpa using qh)
  obtain⟨s',k'⟩:=xef (clock':=clock) s k hi hb g2 wz;refine⟨_,?_,s',k'⟩;have hg:lz[j]?=some lz[j]:=bp;simp only[Instr.mapUpdate,dh,run_underlying hT',dj,run_getObj_map g2,run_checkKey hK' (qye key),u3,f5,hce,fx,db,hg,f9,qyt,run_keyThatStays (qye key),run_setObj_map _ g2]
theorem jmo{E:Ent}{c:Ctx}{h:gz}{w:World}(s:HSim c h w)(k:E.ok c h w){T T' kt et ty:TypeId}{i:Nat}{l:List (ByteArray×AV)}{key:ByteArray}{m:Value}(hT:ij P T=.map kt et)(hK:ij P kt=.string)
  (hm:Rel c (.mapr i) m) (hi:h[i]?=some (.map (qj l))) :
  ∃w',(Builtin.delete_ #[T,T'] ty #[m,.string key]).run P w=.ok (.tuple #[]) w'∧HSim c (h.set i (.map (qj (qwm l key)))) w'∧E.ok c (h.set i (.map (qj (qwm l key)))) w':=by
 obtain⟨b,rfl,hb⟩:=xik hm;obtain⟨b',lz,clock,g1,g2,g3,g4⟩:=s.obj i _ hi;rw[hb]at g1;cases g1;have hE:=xic g3 g4;have hT':=xdy hT;have hK':=xdf hK;have u3:=run_findKey (P:=P) (w:=w) (kt:=kt) hK' (xex key l lz.toList 0 hE);rw[xwl];cases hj:yb l key with
 |none =>
  rw[hj]at u3;obtain⟨s',k'⟩:=xef (clock':=clock) s k hi hb g2 hE;refine⟨_,?_,s',k'⟩;simp[Builtin.delete_,run_underlying hT',dj,run_getObj_map g2,run_checkKey hK' (qye key),u3,run_setObj_map _ g2]
 |some j =>
  rw[hj]at u3;have ib:j<lz.size:=qjh;have hce:lz.toList[j]?=some lz[j]:=bp;have wz:qwb c (l.eraseIdx j) (lz.eraseIdxIfInBounds j).toList:=by
   have hto:(lz.eraseIdxIfInBounds j).toList=lz.toList.eraseIdx j:=by
    simp[Array.eraseIdxIfInBounds,ib]
   rw[hto];refine⟨by rw[List.length_eraseIdx,List.length_eraseIdx,hE.1],fun n p ce hp hc=>?_⟩;rw[List.getElem?_eraseIdx]at hp hc;split at hp
   ·rename_i hn;rw[if_pos hn]at hc;exact hE.2 n p ce hp hc
   ·rename_i hn;rw[if_neg hn]at hc;exact hE.2 (n+1) p ce hp hc
  obtain⟨s',k'⟩:=xef (clock':=clock) s k hi hb g2 wz;refine⟨_,?_,s',k'⟩;have hce':lz[j]?=some lz[j]:=bp;simp[Builtin.delete_,run_underlying hT',dj,run_getObj_map g2,run_checkKey hK' (qye key),u3,run_setObj_map _ g2,hce']
theorem jnq{E:Ent}{c:Ctx}{h:gz}{w:World}(s:HSim c h w)(k:E.ok c h w){i b:Nat}{st:ByteArray}{p p':Nat}
  (hi:h[i]?=some (.iter st p)) (hb:c.blk i=some b) (hh:w.heap[b]?=some (.stringIter st p)) :
  HSim c (h.set i (.iter st p')) { w with heap:=w.heap.setIfInBounds b (.stringIter st p') }∧E.ok c (h.set i (.iter st p')) { w with heap:=w.heap.setIfInBounds b (.stringIter st p') }:=by
 have ib:b<w.heap.size:=(f0.1 hh).1;have o9:∀g,g≠b→({ w with heap:=w.heap.setIfInBounds b (.stringIter st p') }:World).heap[g]?=w.heap[g]?:=fun g hg=>(heap_set hh).2 g hg;have px:jb c i (.iter st p)=some b:=hb;have pr:({ w with heap:=w.heap.setIfInBounds b (.stringIter st p') }:World).heap.size=w.heap.size:=ae;have o7:∀j o b',(h.set i (.iter st p'))[j]?=some o→jb c j o=some b'→∃o0,h[j]?=some o0∧jb c j o0=some b':=fun j o b' hj il=>by
  rcases l7 hj with⟨rfl,rfl⟩|⟨ii,h1⟩
  ·exact⟨_,hi,il⟩
  ·exact⟨o,h1,il⟩
 constructor
 ·refine⟨fun g j v hD=>?_,fun j hj=>s.dom j bf,fun j o hj=>?_,fun j j' o o' b' hj oq jw li=>?_,fun j o b' m v hj jw hD=>?_⟩
  ·have hg:g≠b:=fun e=>by
    subst e;exact s.sep i _ g j v hi px hD
   rw[World.cell?_of_block (w:=w) (o9 g hg)];exact s.data g j v hD
  ·rcases l7 hj with⟨rfl,rfl⟩|⟨ii,h1⟩
   ·exact⟨b,hb,(heap_set hh).1⟩
   ·refine(s.obj j o h1).keep (.refl c) (fun _=>rfl) fun b' il=>o9 b' fun e=>ii ?_;subst e;exact s.apart j i o _ b' h1 hi il px
  ·obtain⟨o1,h1,ll⟩:=o7 j o b' hj jw;obtain⟨o2,h2,vo⟩:=o7 j' o' b' oq li;exact s.apart j j' o1 o2 b' h1 h2 ll vo
  ·rcases l7 hj with⟨rfl,rfl⟩|⟨ii,h1⟩
   ·have:=s.sep j (.iter st p) b' m v hi jw hD;exact this
   ·exact s.sep j o b' m v h1 jw hD
 ·refine⟨k.edom,k.ext,k.blk0,bz,k.os,k.tape,k.output,qig,fun g hg iz=>?_,fun j o b' hj jw=>?_,k.dold⟩
  ·have ii:g≠b:=fun e=>by
    subst e;rcases k.newobj i _ g hi px with⟨o0,h0,h1⟩|h2
    ·exact iz i o0 h0 h1
    ·omega
   rw[o9 g ii];exact k.frame g hg iz
  ·obtain⟨o1,h1,ll⟩:=o7 j o b' hj jw;exact k.newobj j o1 b' h1 ll
theorem jdw{E:Ent}{c:Ctx}{h:gz}{w:World}(s:HSim c h w)(k:E.ok c h w)(st:ByteArray) :
  ∃c',c.le c'∧HSim c' (h++[.iter st 0]) (w.alloc (.stringIter st 0))∧E.ok c' (h++[.iter st 0]) (w.alloc (.stringIter st 0))∧c'.blk h.length=some w.heap.size:=by
 have hw:∀b,b<w.heap.size→(w.alloc (.stringIter st 0)).heap[b]?=w.heap[b]?:=fun b hb=>heap_alloc_old w _ b hb;have s1:HSim c h (w.alloc (.stringIter st 0)):=s.ext hw (.refl c) (fun _ _=>rfl) (fun _ _ _ h=>.inl h) s.dom;have k1:E.ok c h (w.alloc (.stringIter st 0)):=k.ext' s hw (.refl c) (fun _=>rfl) rfl rfl rfl (qfg w _) (fun _ _ _ h=>.inl h);have ig:c.le (c.addBlk h.length w.heap.size):=Ctx.addBlk_le (s.dom h.length (ct _)).1;have sn:(c.addBlk h.length w.heap.size).blk h.length=some w.heap.size:=qh4;have hb:∀b',jb (c.addBlk h.length w.heap.size) h.length (.iter st 0)=some b'→b'=w.heap.size:=fun b' il=>by
  simp only[jb,sn,d7]at il;exact il.symm
 exact⟨_,ig,s1.push (s.fresh (ct _)) (s.noD (ct _)) ⟨_,sn,heap_alloc_new w _⟩ hb,k1.push s1 k.size hb,sn⟩
theorem jna{w:World}{T:TypeId}(hT:P.underlying T=some .string)(st:ByteArray):(Instr.range T (.string st)).run P w=.ok (.pointer (some ⟨w.heap.size,0,none⟩)) (w.alloc (.stringIter st 0)):=by
 simp[Instr.range,run_underlying hT,Result.andThen]
theorem jkc{w:World}{b:Nat}{st:ByteArray}{p:Nat}(hb:w.heap[b]?=some (.stringIter st p))(ty:TypeId) :
  (Instr.next (.pointer (some ⟨b,0,none⟩)) true ty).run P w =
   if p<st.size then .ok (.tuple #[.bool true,goInt p,.int .i32 (Utf8.decode st p).1]) { w with heap:=w.heap.setIfInBounds b (.stringIter st (p+(Utf8.decode st p).2)) }
   else .ok (.tuple #[.bool false]) w:=by
 have hg:(getObj b).run P w=.ok (.stringIter st p) w:=by simp[getObj,Sem.run,hb]
 have hs:∀o,(setObj b o).run P w=.ok () { w with heap:=w.heap.setIfInBounds b o }:=fun o=>by simp[setObj,Sem.run,hb]
 by_cases h:p<st.size
 ·simp only[Instr.next,dh,hg,dj,if_pos h,hs,dy]
 ·simp only[Instr.next,dh,hg,dj,if_neg h,dy]
end
end Go.Abs
