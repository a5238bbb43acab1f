/- Part 28 of a proof: CwPd, CwPe, CwPj, CwU, CwUb, CwUc, CwPf, CwPg, CwPh, CwVa -/
import Derived.Test.YtilhejdbiionhaaGreatDoorR12
import Derived.Test.YtilhejdbiionhaaGreatDoorR23
import Derived.Test.YtilhejdbiionhaaGreatDoorR24
import Derived.Test.YtilhejdbiionhaaGreatDoorR26
import Derived.Test.YtilhejdbiionhaaGreatDoorR27
set_option linter.all false

namespace Go.Cw
open Go Go.Abs
def rngF(f:MV):Prop:=∀k a,f k=some a→qcx a.v
theorem rng_unk:qcx unk.v:=rng_nil
theorem rngF.getD{f:MV}(h:rngF f)(k:qac):qcx ((f k).getD unk).v:=by
 cases hk:f k with
 |none=>exact rng_nil
 |some a=>exact h k a hk
theorem rngF.upd{f:MV}(h:rngF f){s:qac}{a:AX}(ha:qcx a.v):rngF (updF f s a):=fun k b hb=>by
 unfold updF at hb;split at hb
 ·cases hb;exact ha
 ·exact h k b hb
theorem rngF.join{f g:MV}(h:rngF f):rngF (joinF f g):=fun k b hb=>by
 unfold joinF at hb;cases hk:f k with
 |none=>rw[hk]at hb;simp at hb
 |some a =>
  rw[hk]at hb;simp at hb;subst hb;unfold jn;split
  ·exact rng_nil
  ·split
   ·exact h k a hk
   ·exact rng_nil
section
variable {fmt:Int→qac}
theorem appArgs_rng(n:Nat):∀x∈qdj n,rngX x:=fun x hx=>by
 unfold qdj at hx;obtain⟨s,hs,rfl⟩:=List.mem_map.1 hx;have:=List.mem_of_mem_take hs;refine(qdd _).2 ⟨⟨⟨by simp[varEx,Ex.n],by simp[varEx,Ex.n]⟩,?_⟩,by simp[varEx,Ex.args]⟩;simp[abL]at this;rcases this with rfl|rfl<;>simp[varEx,Ex.s]<;>decide
theorem apE_rngX(op:Int)(n:Nat):rngX (.mk op 0 em (qdj n)):=(qdd _).2 ⟨⟨⟨by simp[Ex.n],by simp[Ex.n]⟩,by simp[Ex.s,em]⟩,appArgs_rng n⟩
theorem appVars_rng{vs:List V}(h:∀v∈vs,qcx v):∀q∈qcz vs,qcx q.v:=fun q hq=>by
 obtain⟨p,hp,rfl⟩:=List.mem_map.1 hq;exact h _ (List.of_mem_zip hp).2
theorem apIn{op:Int}{vs:List V}(hf:∀n,i64 n→qa3 (fmt n)=true)(h:∀v∈vs,qcx v):EvIn fmt (.mk op 0 em (qdj vs.length)) (qcz vs) [] :=
 ⟨hf,apE_rngX op _,appVars_rng h,by simp,by
  have:(qcz vs).length≤2:=by simp[qcz,abL];omega
  omega⟩
theorem apE_rng{op:Int}{vs:List V}(hf:∀n,i64 n→qa3 (fmt n)=true)(h:∀v∈vs,qcx v):qcx (apE fmt op vs).1:=by
 unfold apE evalS;split
 ·have hM:rngM (msV (qcz vs)):=⟨firstV_all (P:=qcx) (qcz vs) [] (appVars_rng h) (by simp),by simp[msV]⟩
  have:=(evE_ok (C:=cfgR fmt [] ⟨false,[],[]⟩) (fun q hq=>by cases hq) (.mk op 0 em (qdj vs.length)) (msV (qcz vs)) (apE_rngX op _) hM (by simp[msV])).2;rcases hE:evE (cfgR fmt [] ⟨false,[],[]⟩) (.mk op 0 em (qdj vs.length)) (msV (qcz vs))with⟨z|v,m⟩
  ·exact rng_nil
  ·rw[hE]at this;exact this v rfl
 ·exact rng_nil
mutual
theorem exE_rng(hf:∀n,i64 n→qa3 (fmt n)=true):∀(e:Ex) (f:MV) (x:XS),rngX e→rngF f→qcx (exE fmt e f x).1.1.v
 | .mk op n s args,f,x,hX,hF=>by
  have hX':=(qdd _).1 hX;simp only[Ex.n,Ex.s,Ex.args]at hX';rw[exE];split
  ·exact rng_vI hX'.1.1
  split
  ·exact⟨⟨by simp[vS,kn],by simp[vS,kn]⟩,hX'.1.2⟩
  split
  ·exact hF.getD s
  have h1:=exL_rng hf args f x hX'.2 hF;rcases hL:exL fmt args f x with⟨_|l,x'⟩
  ·exact rng_nil
  ·rw[hL]at h1;simp only;split
   ·exact rng_nil
   split
   ·exact rng_nil
   ·refine apE_rng hf fun v hv=>?_;obtain⟨a,ha,rfl⟩:=List.mem_map.1 hv;exact h1 l rfl a ha
theorem exL_rng(hf:∀n,i64 n→qa3 (fmt n)=true):∀(l:List Ex) (f:MV) (x:XS),(∀e∈l,rngX e)→rngF f→∀r,(exL fmt l f x).1=some r→∀a∈r,qcx a.v
 | [],f,x,_,_,r,hr,a,ha=>by
  rw[exL]at hr;cases hr;cases ha
 |e::l,f,x,hX,hF,r,hr,a,ha=>by
  rw[exL]at hr;have h1:=exE_rng hf e f x (hX e (by simp)) hF;rcases hE:exE fmt e f x with⟨⟨b,_|_⟩,x'⟩
  ·rw[hE]at hr;cases hr
  ·rw[hE]at hr h1;simp only at hr h1;have h2:=exL_rng hf l f x' (fun e he=>hX e (by simp[he])) hF;rcases hL:exL fmt l f x' with⟨_|q,x''⟩
   ·rw[hL]at hr;cases hr
   ·rw[hL]at hr h2;cases hr;rcases List.mem_cons.1 ha with rfl|ha
    ·exact h1
    ·exact h2 q rfl a ha
end
end
theorem appArgs0:qdj 0=[]:=rfl
theorem appArgs1:qdj 1=[varEx ⟨#[97]⟩]:=rfl
theorem appArgs2:qdj 2=[varEx ⟨#[97]⟩,varEx ⟨#[98]⟩]:=rfl
theorem appVars1{l:List AX}(h:0<l.length):(qcz (l.map (·.v))).take 1=[⟨⟨#[97]⟩,l[0].v⟩]:=by
 match l,h with
 | [a],_=>rfl
 |a::b::l,_=>rfl
theorem appVars2{l:List AX}(h:1<l.length):(qcz (l.map (·.v))).take 2=[⟨⟨#[97]⟩,l[0].v⟩,⟨⟨#[98]⟩,l[1].v⟩]:=by
 match l,h with
 |a::b::l,_=>rfl
theorem appVars_len{l:List AX}(h:l.length≤2):(qcz (l.map (·.v))).length=l.length:=by
 simp[qcz,abL];omega
theorem chkE_ar{e:Ex}{d:Nat}(h:chkE e d=0):(e.args.length:Int)=qb0 e.op∧∀x∈e.args,chkE x (d+1)=0:=by
 rw[chkE_eq]at h;split at h
 ·rename_i h0;refine⟨?_,chkL_mem h⟩;unfold qcb at h0;grind
 ·contradiction
theorem arity_get{op:Int}(h:op=22∨op=23∨op=24):qb0 op=1:=by
 unfold qb0;grind
end Go.Cw

namespace Go.Cw
open Go Go.Abs
abbrev nilM:AV:=.val (.map none)
structure ResX(K:XS→qab)(n0 i:Nat)(o:Option MV×XS)(Z:AV→Prop)(r:AEnd)(h':qab):Prop where
 out:∃L,h'=K o.2++L∧hUnder (n0+L.length) L=true ∧
  ((o.1=none∧∃m,r=.ret (.tuple [m,Bo false])∧Z m) ∨
   (∃f' j l',o.1=some f'∧r=.ret (.tuple [.mapr j,Bo true])∧j<n0+L.length∧VM (fun q=>K q++L) j f' l'∧(j=i∨n0≤j)))
theorem VM.ext{K:XS→qab}{n0:Nat}(hlen:∀x,(K x).length=n0){i:Nat}{f:MV}{l:List (qac×AX)}(h:VM K i f l)(hi:i<n0)(L:qab):VM (fun q=>K q++L) i f l :=
 ⟨fun q=>by
  show(K q++L)[i]?=_;rw[List.getElem?_append_left (by rw[hlen];exact hi),h.lm],h.nod,h.get⟩
theorem VM.assoc{K:XS→qab}{A B:qab}{i:Nat}{f:MV}{l:List (qac×AX)}(h:VM (fun q=>(K q++A)++B) i f l):VM (fun q=>K q++(A++B)) i f l :=
 ⟨fun q=>by
  have:=h.lm q;show(K q++(A++B))[i]?=_
  rwa [←List.append_assoc],h.nod,h.get⟩
theorem ResX.ext{K:XS→qab}{n0 i:Nat}{o:Option MV×XS}{Z:AV→Prop}{r:AEnd}{h':qab}{A:qab}(hA:hUnder (n0+A.length) A=true)(h:ResX (fun q=>K q++A) (n0+A.length) i o Z r h'):ResX K n0 i o Z r h':=by
 obtain⟨L,h1,h2,h3⟩:=h.out;refine⟨A++L,by rw[h1,List.append_assoc],?_,?_⟩
 ·rw[List.length_append,qar,←Nat.add_assoc,h2,qau (by omega) hA];rfl
 ·rcases h3 with h3|⟨f',j,l',e1,e2,e3,e4,e5⟩
  ·exact .inl h3
  ·exact .inr ⟨f',j,l',e1,e2,by rw[List.length_append];omega,e4.assoc,by omega⟩
theorem kGet_perm{α:Type}{l l':List (qac×α)}(hp:l'.Perm l)(hn:(keysM l).Nodup)(k:qac):qbg l' k=qbg l k:=by
 have hn':(keysM l').Nodup:=(hp.map _).nodup_iff.2 hn;cases h:qbg l k with
 |none =>
  rw[qcy]at h⊢;exact fun hm=>h ((hp.map _).mem_iff.1 hm)
 |some v=>exact kGet_of_mem hn' (hp.mem_iff.2 (kGet_mem h))
theorem keysM_set{α:Type}{l:List (qac×α)}(hn:(keysM l).Nodup)(s:qac)(v:α):(keysM (qbr l s v)).Nodup:=by
 induction l with
 |nil=>simp[qbr]
 |cons p l ih =>
  simp only[List.map_cons,List.nodup_cons]at hn;rw[qbr];split
  ·rename_i h;subst h;simpa using hn
  ·rename_i h;simp only[List.map_cons,List.nodup_cons];refine⟨fun hm=>?_,ih hn.2⟩;rcases(qcr l s v p.1).1 hm with e|hm
   ·exact h e
   ·exact hn.1 hm
theorem VM.upd{K:XS→qab}{i:Nat}{f:MV}{l l':List (qac×AX)}(hp:l'.Perm l)(hn:(keysM l).Nodup)(hg:∀k,qbg l k=f k){s:qac}{a:AX}(hm:∀x,(K x)[i]?=some (.map (kAV qc7 (qbr l' s a)))):VM K i (updF f s a) (qbr l' s a) :=
 ⟨hm,keysM_set ((hp.map _).nodup_iff.2 hn) s a,fun k=>by
  rw[qb3,kGet_perm hp hn,hg];rfl⟩
theorem kGet_map{α β:Type}(g:qac→α→β)(l:List (qac×α))(k:qac):qbg (l.map fun p=>(p.1,g p.1 p.2)) k=(qbg l k).map (g k):=by
 induction l with
 |nil=>rfl
 |cons p l ih =>
  simp only[List.map_cons,qbg,ih];split
  ·rename_i h;subst h;rfl
  ·rfl
theorem VM.join{K:XS→qab}{i:Nat}{f g:MV}{la lb l':List (qac×AX)}(hp:l'.Perm (la.map fun p=>(p.1,jn p.2 (qbg lb p.1))))(hn:(keysM la).Nodup)(hf:∀k,qbg la k=f k)(hg:∀k,qbg lb k=g k)(hm:∀x,(K x)[i]?=some (.map (kAV qc7 l'))):VM K i (joinF f g) l':=by
 have hn2:(keysM (la.map fun p=>(p.1,jn p.2 (qbg lb p.1)))).Nodup:=by simpa[keysM,Function.comp_def]using hn
 refine⟨hm,(hp.map _).nodup_iff.2 hn2,fun k=>?_⟩;rw[kGet_perm hp hn2,kGet_map (fun s x=>jn x (qbg lb s)),hf,hg];rfl
section
variable {fmt:Int→qac}
theorem cntX_rng{body:MV→XS→Option MV×XS}{name:qac}(hb:∀f x,rngF f→∀f',(body f x).1=some f'→rngF f'):∀(n:Nat) (i:Int) (f:MV) (x:XS),(∀k:Nat,k<n→i64 (i+k))→rngF f→∀f',(cntX body name n i f x).1=some f'→rngF f'
 | 0,i,f,x,_,hF,f',h=>by rw[cntX]at h;cases h;exact hF
 |n+1,i,f,x,hi,hF,f',h=>by
  rw[cntX]at h;have h0:=hi 0 (by omega);rw[show i+((0:Nat):Int)=i by omega]at h0;have h1:=hb (updF f name (kn (vI i))) x (hF.upd (rng_vI h0));rcases hB:body (updF f name (kn (vI i))) x with⟨_|f1,x'⟩
  ·rw[hB]at h;cases h
  ·rw[hB]at h h1;exact cntX_rng hb n (i+1) f1 x' (fun k hk=>by have:=hi (k+1) (by omega);rwa [show i+((k+1:Nat):Int)=i+1+k by omega]at this) (h1 f1 rfl) f' h
theorem repX_rng{body:MV→XS→Option MV×XS}{name:qac}:∀(n:Nat) (f:MV) (x:XS),rngF f→∀f',(repX body name n f x).1=some f'→rngF f'
 | 0,f,x,hF,f',h=>by rw[repX]at h;cases h;exact hF
 |n+1,f,x,hF,f',h=>by
  rw[repX]at h;rcases hB:body (updF f name unk) x with⟨o,x'⟩;rw[hB]at h;simp only at h;split at h
  ·cases h
  ·cases o with
   |none=>cases h;exact hF
   |some f1=>exact repX_rng n (joinF f f1) x' hF.join f' h
theorem brX_rng{r1:Option MV×XS}{e:XS→Option MV×XS}(h1:∀f',r1.1=some f'→rngF f')(h2:∀x f',(e x).1=some f'→rngF f'):∀f',(brX r1 e).1=some f'→rngF f':=fun f' h=>by
 unfold brX at h;split at h
 ·cases h
 split at h
 ·cases h
 ·cases ha:r1.1 with
  |none =>
   rw[ha]at h;exact h2 _ _ h
  |some f =>
   cases hb:(e r1.2).1 with
   |none=>rw[ha,hb]at h;cases h;exact h1 _ ha
   |some g=>rw[ha,hb]at h;cases h;exact(h1 _ ha).join
mutual
theorem exSt_rng(hf:∀n,i64 n→qa3 (fmt n)=true):∀(t:St) (f:MV) (x:XS),rngS t→rngF f→∀f',(exSt fmt t f x).1=some f'→rngF f'
 | .mk op name mx a b body els,f,x,hS,hF,f',h=>by
  obtain⟨hA,hB,hbo,hel⟩:=(qec _).1 hS;simp only[St.a,St.b,St.body,St.els]at hA hB hbo hel;rw[exSt]at h;split at h
  ·cases h
  have h1:=exE_rng hf a f x hA hF;rcases hE:exE fmt a f x with⟨⟨va,_|_⟩,x1⟩
  ·rw[hE]at h;cases h
  rw[hE]at h h1;simp only at h h1;split at h
  ·cases h;exact hF.upd h1
  split at h
  ·cases h;exact hF
  split at h
  ·split at h
   ·cases h;exact hF
   ·cases h
  split at h
  ·split at h
   ·exact exBl_rng hf body f x1 hbo hF f' h
   split at h
   ·exact exBl_rng hf els f x1 hel hF f' h
   ·exact brX_rng (fun g hg=>exBl_rng hf body f x1 hbo hF g hg) (fun y g hg=>exBl_rng hf els f y hel hF g hg) f' h
  have h2:=exE_rng hf b f x1 hB hF;rcases hE2:exE fmt b f x1 with⟨⟨vb,_|_⟩,x2⟩
  ·rw[hE2]at h;cases h
  rw[hE2]at h h2;simp only at h h2;split at h
  ·split at h
   ·cases h;exact hF
   ·cases h
  split at h
  ·split at h
   ·cases h
   ·refine cntX_rng (fun g y hG g' hg=>exBl_rng hf body g y hbo hG g' hg) _ _ _ _ (fun k hk=>?_) hF f' h;have:=h1.1;have:=h2.1;unfold i64 at *;omega
  ·exact repX_rng _ _ _ hF f' h
theorem exBl_rng(hf:∀n,i64 n→qa3 (fmt n)=true):∀(l:List St) (f:MV) (x:XS),(∀t∈l,rngS t)→rngF f→∀f',(exBl fmt l f x).1=some f'→rngF f'
 | [],f,x,_,hF,f',h=>by rw[exBl]at h;cases h;exact hF
 |t::l,f,x,hS,hF,f',h=>by
  rw[exBl]at h;have h1:=exSt_rng hf t f x (hS t (by simp)) hF;rcases hE:exSt fmt t f x with⟨_|g,x'⟩
  ·rw[hE]at h;cases h
  ·rw[hE]at h h1;exact exBl_rng hf l g x' (fun s hs=>hS s (by simp[hs])) (h1 g rfl) f' h
end
end
end Go.Cw

namespace Go.Cw
open Go Go.Abs
structure BA where
 f:MV
 j:Nat
 lv:List (qac×AX)
 x:XS
 L:qab
structure BOk(K:XS→qab)(n0 i:Nat)(a:BA):Prop where
 vm:VM (fun q=>K q++a.L) a.j a.f a.lv
 lt:a.j<n0+a.L.length
 und:hUnder (n0+a.L.length) a.L=true
 rng:rngF a.f
 fr:a.j=i∨n0≤a.j
section
@[simp] theorem kvSet_ax(l:List (qac×AX))(s:qac)(b:Bool)(k n:Int)(z:qac):qb5 (kvSet (l.map fun p=>(p.1,qc7 p.2)) s (.agg [Bo b,I k,I n,S z]))=kAV qc7 (qbr l s ⟨b,⟨k,n,z⟩⟩):=kvSet_map qc7 l s ⟨b,⟨k,n,z⟩⟩
theorem qds(n:Nat)(l:List (qac×AX)):(AObj.map (kAV qc7 l)).under n=true:=by
 simp only[AObj.under,List.all_eq_true,Bool.and_eq_true];rintro⟨a,b⟩ h;exact kAV_under n l a b h
variable {tb:AObj} {g p ir iw:Nat} {K:XS→qab} {n0 i:Nat}
theorem und_cat(Y:PH tb g p ir iw K n0)(z:XS){M:qab}(hM:hUnder (n0+M.length) M=true):hUnder (K z++M).length (K z++M)=true:=by
 rw[List.length_append,Y.len,qar,qau (by omega) (Y.und z),hM];rfl
theorem qb6{n:Nat}{A B:qab}(hA:hUnder (n+A.length) A=true)(hB:hUnder (n+A.length+B.length) B=true):hUnder (n+(A++B).length) (A++B)=true:=by
 rw[List.length_append,qar,←Nat.add_assoc,hB,qau (by omega) hA];rfl
theorem qbu(Y:PH tb g p ir iw K n0){N:Nat}(hN:N≤n0){z:XS}{M H:qab}(hM:hUnder (n0+M.length) M=true)(hH:H=K z++M){m:AV}(hm:m=nilM∨∃j,m=.mapr j∧j<n0+M.length){R0:Option MV×XS}{Z:AV→Prop}(hZ:Z m)(ho:R0=(none,z)) :
  ∃r',(AV.tuple [m,Bo false]).Wk r'∧∃x1,AV.under (List.length x1) r'=true∧hwk H x1∧N≤x1.length∧hUnder x1.length x1=true∧ResX K n0 i R0 Z (.ret r') x1:=by
 subst hH;subst ho;refine⟨_,.refl _,K z++M,?_,hwk.refl _,by simp[Y.len];omega,und_cat Y z hM,⟨M,rfl,hM,.inl ⟨rfl,m,rfl,hZ⟩⟩⟩;rcases hm with rfl|⟨j,rfl,hj⟩
 ·simp[go_sem]
 ·simp[go_sem,Y.len];omega
theorem qcw(Y:PH tb g p ir iw K n0){N:Nat}(hN:N≤n0){z:XS}{M H:qab}(hM:hUnder (n0+M.length) M=true)(hH:H=K z++M){j:Nat}{f:MV}{l:List (qac×AX)}(hV:VM (fun q=>K q++M) j f l)(hj:j<n0+M.length)(hfr:j=i∨n0≤j){R0:Option MV×XS}{Z:AV→Prop}(ho:R0=(some f,z)) :
  ∃r',(AV.tuple [.mapr j,Bo true]).Wk r'∧∃x1,AV.under (List.length x1) r'=true∧hwk H x1∧N≤x1.length∧hUnder x1.length x1=true∧ResX K n0 i R0 Z (.ret r') x1:=by
 subst hH;subst ho;refine⟨_,.refl _,K z++M,?_,hwk.refl _,by simp[Y.len];omega,und_cat Y z hM,⟨M,rfl,hM,.inr ⟨f,j,l,rfl,rfl,hj,hV,hfr⟩⟩⟩;simp[go_sem,Y.len];omega
end
end Go.Cw

namespace Go.Cw
open Go Go.Abs
structure Txn where
 id:Int
 proc:qac
 args:List V
 ft:Foot
 att:Int
def Txn.c(t:Txn):List AV:=[I t.id,S t.proc,.slice (t.args.map V.c),Bo t.ft.all,.slice (t.ft.reads.map qa1),.slice (t.ft.writes.map qa1),I t.att]
def findN(procs:List Proc)(name:qac):Option Proc:=procs.find? fun p=>decide (p.name=name)
def findP(procs:List Proc)(t:Txn):Option Proc :=
 match findN procs t.proc with
 |none=>none
 |some p=>if qcl p t.args=0 then some p else none
section
variable (fmt:Int→qac)
def oneS(procs:List Proc)(s:List Pr)(t:Txn):List Pr×Eff :=
 match findP procs t with
 |none=>(s,wrongE)
 |some p=>if (runS fmt p t.args s t.ft).status=1 then(applyP s (runS fmt p t.args s t.ft).writes,runS fmt p t.args s t.ft)else(s,runS fmt p t.args s t.ft)
def roundS(procs:List Proc)(s:List Pr)(l:List Txn):List Pr×List Eff :=
 l.foldl (fun y t=>((oneS fmt procs y.1 t).1,y.2++[(oneS fmt procs y.1 t).2])) (s,[])
end
def wroteS(e:Eff)(k:qac):Bool:=decide (e.status=1)&&hasP e.writes k
def applyE(s:List Pr)(e:Eff):List Pr:=if e.status=1∧qb7 s=true∧writesOk e.writes=true then applyP s e.writes else s
section
variable (fmt:Int→qac)
end
structure BatchIn(fmt:Int→qac)(procs:List Proc)(l:List Txn):Prop where
 fmt:∀n,i64 n→qa3 (fmt n)=true
 body:∀p∈procs,∀t∈p.body,rngS t
 args:∀t∈l,∀v∈t.args,qcx v
abbrev rngL(s:List Pr):Prop:=∀q∈s,qcx q.v
section
variable {fmt:Int→qac}
structure OneOk(s:List Pr)(x:List Pr×Eff):Prop where
 rng:rngL x.1
 len:x.1.length≤s.length+64
 ok:qb7 s=true→qb7 x.1=true
 no:qb7 s=false→x.1=s
 get:∀k,wroteS x.2 k=false→getP x.1 k=getP s k
 upd:x.1=applyE s x.2
 rds:x.2.reads.length≤64
 wrs:x.2.writes.length≤64
 wrng:rngL x.2.writes
 com:x.2.status=1→qb7 s=true∧writesOk x.2.writes=true
structure RoundOk(s:List Pr)(n:Nat)(x:List Pr×List Eff):Prop where
 rng:rngL x.1
 len:x.1.length≤s.length+64 * n
 cnt:x.2.length=n
 ok:qb7 s=true→qb7 x.1=true
 no:qb7 s=false→x.1=s
 get:∀k,(∀e∈x.2,wroteS e k=false)→getP x.1 k=getP s k
 rds:∀e∈x.2,e.reads.length≤64
 wrs:∀e∈x.2,e.writes.length≤64
 wrng:∀e∈x.2,rngL e.writes
theorem BatchIn.take{procs:List Proc}{l:List Txn}(h:BatchIn fmt procs l)(n:Nat):BatchIn fmt procs (l.take n):=⟨h.fmt,h.body,fun x hx=>h.args x (List.mem_of_mem_take hx)⟩
end
end Go.Cw

namespace Go.Cw
open Go Go.Abs
section
variable {fmt:Int→qac} {p:Proc} {args:List V} {st:List Pr}
abbrev ftAll:Foot:=⟨true,[],[]⟩
abbrev ftOf(e:Eff):Foot:=⟨false,e.reads,e.puts⟩
end
section
variable (fmt:Int→qac)
def reconS(p:Proc)(args:List V)(st:List Pr):Foot×Int :=
 if qbv p≠0∨qcl p args≠0∨qb7 st=false then(⟨false,[],[]⟩,1)else(ftOf (runS fmt p args st ftAll),0)
structure Res where
 id:Int
 att:Int
 status:Int
 code:Int
 out:List V
def Res.c(r:Res):List AV:=[I r.id,I r.att,I r.status,I r.code,.slice (r.out.map V.c)]
def Res.z:Res:=⟨0,0,0,0,[]⟩
end
section
variable {fmt:Int→qac}
end
end Go.Cw

namespace Go.Cw
open Go Go.Abs
section
variable {fmt:Int→qac}
structure Tal(L:List Txn)(l:List Txn)(is:List Nat)(out:List Res):Prop where
 len:is.length=l.length
 ol:out.length=L.length
 nod:is.Nodup
 lt:∀i∈is,i<L.length
 id:∀j (h:j<l.length) (h':j<is.length) (h2:is[j]<L.length),l[j].id=L[is[j]].id
 done:∀i (h:i<L.length) (h':i<out.length),i∈is∨(out[i].id=L[i].id∧(out[i].status=1∨out[i].status=2))
end
end Go.Cw

namespace Go.Cw
open Go Go.Abs
structure XLe(x y:XS):Prop where
 r:∀k∈x.r,k∈y.r
 w:∀k∈x.w,k∈y.w
 f:x.f=true→y.f=true
theorem XLe.refl(x:XS):XLe x x:=⟨fun _ h=>h,fun _ h=>h,id⟩
theorem XLe.trans{x y z:XS}(h:XLe x y)(g:XLe y z):XLe x z:=⟨fun k hk=>g.r k (h.r k hk),fun k hk=>g.w k (h.w k hk),fun e=>g.f (h.f e)⟩
structure XK(P:XS→XS→Prop):Prop where
 refl:∀x,P x x
 trans:∀{x y z},P x y→P y z→P x z
 key:∀wr a x,P x (keyX wr a x).2
section
variable {fmt:Int→qac} {P:XS→XS→Prop} (K:XK P)
include K
mutual
theorem xk_E:∀(e:Ex) (f:MV) (x:XS),P x (exE fmt e f x).2
 | .mk op n s args,f,x=>by
  have hL:=xk_L args f x;rw[exE];split
  ·exact K.refl x
  split
  ·exact K.refl x
  split
  ·exact K.refl x
  rcases hqhL:exL fmt args f x with⟨_|l,x'⟩<;>rw[hqhL]at hL
  ·exact hL
  ·simp only at hL⊢;split
   ·exact K.trans hL (K.key _ _ _)
   split
   ·exact hL
   ·exact hL
theorem xk_L:∀(l:List Ex) (f:MV) (x:XS),P x (exL fmt l f x).2
 | [],f,x=>by rw[exL];exact K.refl x
 |e::l,f,x=>by
  have hE:=xk_E e f x;rw[exL];rcases hqhE:exE fmt e f x with⟨⟨a,_|_⟩,x'⟩<;>rw[hqhE]at hE
  ·exact hE
  ·simp only at hE⊢;have hL:=xk_L l f x';rcases hqhL:exL fmt l f x' with⟨_|r,x''⟩<;>rw[hqhL]at hL
   ·exact K.trans hE hL
   ·exact K.trans hE hL
end
theorem xk_cnt{body:MV→XS→Option MV×XS}{name:qac}(hb:∀f x,P x (body f x).2):∀(n:Nat) (i:Int) (f:MV) (x:XS),P x (cntX body name n i f x).2
 | 0,i,f,x=>by rw[cntX];exact K.refl x
 |n+1,i,f,x=>by
  have h1:=hb (updF f name (kn (vI i))) x;rw[cntX];rcases hqh1:body (updF f name (kn (vI i))) x with⟨_|f',x'⟩<;>rw[hqh1]at h1
  ·exact h1
  ·exact K.trans h1 (xk_cnt hb n _ _ _)
theorem xk_rep{body:MV→XS→Option MV×XS}{name:qac}(hb:∀f x,P x (body f x).2):∀(n:Nat) (f:MV) (x:XS),P x (repX body name n f x).2
 | 0,f,x=>by rw[repX];exact K.refl x
 |n+1,f,x=>by
  have h1:=hb (updF f name unk) x;rw[repX];rcases hqh1:body (updF f name unk) x with⟨o,x'⟩<;>rw[hqh1]at h1;simp only at h1⊢;split
  ·exact h1
  ·cases o with
   |none=>exact h1
   |some f'=>exact K.trans h1 (xk_rep hb n _ _)
theorem xk_br{r1:Option MV×XS}{e:XS→Option MV×XS}{x:XS}(h1:P x r1.2)(h2:∀y,P y (e y).2):P x (brX r1 e).2:=by
 unfold brX;split
 ·exact h1
 split
 ·exact K.trans h1 (h2 _)
 ·exact K.trans h1 (h2 _)
mutual
theorem xk_St:∀(t:St) (f:MV) (x:XS),P x (exSt fmt t f x).2
 | .mk op name mx a b body els,f,x=>by
  have hA:=xk_E (fmt:=fmt) K a f x;rw[exSt];split
  ·exact K.refl x
  rcases hqhA:exE fmt a f x with⟨⟨va,_|_⟩,x1⟩<;>rw[hqhA]at hA
  ·exact hA
  simp only at hA⊢;split
  ·exact hA
  split
  ·exact hA
  split
  ·exact K.trans hA (K.key _ _ _)
  split
  ·split
   ·exact K.trans hA (xk_Bl body f x1)
   split
   ·exact K.trans hA (xk_Bl els f x1)
   ·exact K.trans hA (xk_br K (xk_Bl body f x1) fun y=>xk_Bl els f y)
  have hB:=xk_E (fmt:=fmt) K b f x1;rcases hqhB:exE fmt b f x1 with⟨⟨vb,_|_⟩,x2⟩<;>rw[hqhB]at hB
  ·exact K.trans hA hB
  simp only at hB⊢;split
  ·exact K.trans hA (K.trans hB (K.key _ _ _))
  split
  ·split
   ·exact K.trans hA hB
   ·exact K.trans hA (K.trans hB (xk_cnt K (fun f x=>xk_Bl body f x) _ _ _ _))
  ·exact K.trans hA (K.trans hB (xk_rep K (fun f x=>xk_Bl body f x) _ _ _))
theorem xk_Bl:∀(l:List St) (f:MV) (x:XS),P x (exBl fmt l f x).2
 | [],f,x=>by rw[exBl];exact K.refl x
 |t::l,f,x=>by
  have hS:=xk_St t f x;rw[exBl];rcases hqhS:exSt fmt t f x with⟨_|f',x'⟩<;>rw[hqhS]at hS
  ·exact hS
  ·exact K.trans hS (xk_Bl l f' x')
end
end
section
variable {fmt:Int→qac}
end
def Apx(f:MV)(vs:List (qac×V)):Prop:=∀s a,f s=some a→a.known=true→qbg vs s=some a.v
def Knw:List AX→List V→Prop
 | [],[]=>True
 |a::l,v::q=>(a.known=true→a.v=v)∧Knw l q
 |_,_=>False
theorem Knw.len:∀{l:List AX} {q:List V},Knw l q→l.length=q.length
 | [],[],_=>rfl
 |a::l,v::q,h=>by simp[Knw.len h.2]
 | [],_::_,h=>h.elim
 |_::_,[],h=>h.elim
theorem Knw.all:∀{l:List AX} {q:List V},Knw l q→l.all (·.known)=true→l.map (·.v)=q
 | [],[],_,_=>rfl
 |a::l,v::q,h,hk=>by
  simp only[List.all_cons,Bool.and_eq_true]at hk;rw[List.map_cons,h.1 hk.1,Knw.all h.2 hk.2]
 | [],_::_,h,_=>h.elim
 |_::_,[],h,_=>h.elim
section
variable {D:Cfg} (hV:vC D) (hC:rngC D) (hA:D.all=true)
include hV hC hA
end
end Go.Cw

namespace Go.Cw
open Go Go.Abs
theorem Apx.upd{f:MV}{vs:List (qac×V)}(h:Apx f vs){s:qac}{a:AX}{v:V}(hv:a.known=true→a.v=v):Apx (updF f s a) (qbr vs s v):=fun k b hb hk=>by
 rw[qb3];unfold updF at hb;split at hb
 ·rename_i hs;cases hb;rw[if_pos hs,hv hk]
 ·rename_i hs;rw[if_neg hs];exact h k b hb hk
def CovS(m:MS)(o:Option MV×XS)(y:Except Stop Unit×MS):Prop :=
 (∀k∈y.2.reads,k∈m.reads∨k∈o.2.r)∧(∀k∈y.2.puts,k∈m.puts∨k∈o.2.w)∧(∀u,y.1=.ok u→∃f',o.1=some f'∧Apx f' y.2.vars)
theorem CovS.after{m m1:MS}{x1:XS}{o:Option MV×XS}{y:Except Stop Unit×MS}(h1:∀k∈m1.reads,k∈m.reads∨k∈x1.r)(h2:∀k∈m1.puts,k∈m.puts∨k∈x1.w)(hle:XLe x1 o.2)(h:CovS m1 o y):CovS m o y :=
 ⟨fun k hk=>(h.1 k hk).elim (fun h=>(h1 k h).imp id (hle.r k)) .inr,fun k hk=>(h.2.1 k hk).elim (fun h=>(h2 k h).imp id (hle.w k)) .inr,h.2.2⟩
section
variable {D:Cfg} (hV:vC D) (hC:rngC D) (hA:D.all=true)
include hV hC hA
end
end Go.Cw

namespace Go.Cw
open Go Go.Abs
structure KO(x:XS):Prop where
 rn:x.r.Nodup
 wn:x.w.Nodup
 rk:∀k∈x.r,keyOk k=true
 wk:∀k∈x.w,keyOk k=true
theorem ko_XK:XK fun x y=>KO x→KO y where
 refl:=fun _ h=>h
 trans:=fun h g k=>g (h k)
 key:=fun wr a x h=>by
  unfold keyX;split
  ·exact⟨h.rn,h.wn,h.rk,h.wk⟩
  split
  ·exact h
  ·rename_i _ hk;have hk:keyOk a.v.s=true:=by simpa using hk
   cases wr
   ·exact⟨addS_nodup h.rn _,h.wn,fun k hm=>(mem_addS.1 hm).elim (h.rk k) fun e=>e▸hk,h.wk⟩
   ·exact⟨h.rn,addS_nodup h.wn _,h.rk,fun k hm=>(mem_addS.1 hm).elim (h.wk k) fun e=>e▸hk⟩
theorem ko0:KO ⟨[],[],false⟩:=⟨by simp,by simp,by simp,by simp⟩
section
variable {fmt:Int→qac} {p:Proc} {args:List V}
abbrev exP(fmt:Int→qac)(p:Proc)(args:List V):XS:=(exBl fmt p.body (initF p.params args fun _=>none) ⟨[],[],false⟩).2
theorem exP_ko:KO (exP fmt p args):=xk_Bl ko_XK p.body _ _ ko0
variable {st:List Pr}
end
end Go.Cw

namespace Go.Cw
open Go Go.Abs
abbrev Ex.z:Ex:=.mk 0 0 em []
abbrev St.z:St:=.mk 0 em 0 Ex.z Ex.z [] []
structure Vt where
 isS:Bool
 t:St
 d:Nat
 e:Ex
 root:Bool
def Vt.c(v:Vt):List AV:=[Bo v.isS,I v.t.op,S v.t.name,I v.t.max,I v.t.a.op,I v.t.a.n,S v.t.a.s,.slice (v.t.a.args.map Ex.c),I v.t.b.op,I v.t.b.n,S v.t.b.s,.slice (v.t.b.args.map Ex.c),.slice (v.t.body.map St.c),.slice (v.t.els.map St.c),I v.d,I v.e.op,I v.e.n,S v.e.s,.slice (v.e.args.map Ex.c),Bo v.root]
def Vt.ofS(t:St)(d:Nat):Vt:=⟨true,t,d,Ex.z,false⟩
def Vt.ofE(e:Ex)(r:Bool):Vt:=⟨false,St.z,0,e,r⟩
mutual
def wkE:Ex→Bool→List Vt→List Vt
 | .mk op n s args,r,out=>if 400<out.length then out else wkEL args (out++[Vt.ofE (.mk op n s args) r])
def wkEL:List Ex→List Vt→List Vt
 | [],out=>out
 |e::l,out=>if out.length≤400 then wkEL l (wkE e false out)else out
end
theorem wkE_eq(e:Ex)(r:Bool)(out:List Vt):wkE e r out=if 400<out.length then out else wkEL e.args (out++[Vt.ofE e r]):=by
 cases e;rw[wkE];rfl
def wkF(e:Ex)(out:List Vt):List Vt:=if absE e=true then out else wkE e true out
mutual
def wkS:St→Nat→List Vt→List Vt
 | .mk _ _ _ a b body els,d,out=>wkB els (d+1) (wkB body (d+1) (wkF b (wkF a out)))
def wkB:List St→Nat→List Vt→List Vt
 | [],_,out=>out
 |t::l,d,out=>if out.length≤400 then wkB l d (wkS t d (out++[Vt.ofS t d]))else out
end
theorem wkS_eq(t:St)(d:Nat)(out:List Vt):wkS t d out=wkB t.els (d+1) (wkB t.body (d+1) (wkF t.b (wkF t.a out))):=by
 cases t;rw[wkS];rfl
abbrev wkP(p:Proc):List Vt:=wkB p.body 1 []
section
variable {σ:Type} (fS:σ→St→Nat→σ) (fR:σ→Ex→σ)
def qdl(s:σ)(l:List Vt):σ:=l.foldl (fun s v=>if v.isS then fS s v.t v.d else if v.root then fR s v.e else s) s
theorem foldV_snoc(s:σ)(l:List Vt)(v:Vt):qdl fS fR s (l++[v])=if v.isS then fS (qdl fS fR s l) v.t v.d else if v.root then fR (qdl fS fR s l) v.e else qdl fS fR s l:=by
 simp[qdl,List.foldl_append]
theorem foldV_S(s:σ)(l:List Vt)(t:St)(d:Nat):qdl fS fR s (l++[Vt.ofS t d])=fS (qdl fS fR s l) t d:=by rw[foldV_snoc];rfl
theorem foldV_E(s:σ)(l:List Vt)(e:Ex):qdl fS fR s (l++[Vt.ofE e false])=qdl fS fR s l:=by rw[foldV_snoc];rfl
theorem foldV_R(s:σ)(l:List Vt)(e:Ex):qdl fS fR s (l++[Vt.ofE e true])=fR (qdl fS fR s l) e:=by rw[foldV_snoc];rfl
mutual
theorem wkE_fold:∀(e:Ex) (out:List Vt) (s:σ),out.length≤401→(wkE e false out).length≤401∧exW e (401 - out.length)=401 - (wkE e false out).length∧qdl fS fR s (wkE e false out)=qdl fS fR s out
 | .mk op n x args,out,s,h=>by
  rw[wkE,exW];by_cases h1:400<out.length
  ·rw[if_pos h1,if_pos (by omega)];exact⟨h,by omega,rfl⟩
  ·rw[if_neg h1,if_neg (by omega)];have:=wkEL_fold args (out++[Vt.ofE (.mk op n x args) false]) s (by simp;omega);refine⟨this.1,?_,this.2.2.trans (foldV_E _ _ _ _ _)⟩;rw[←this.2.1];congr 1;simp;omega
theorem wkEL_fold:∀(l:List Ex) (out:List Vt) (s:σ),out.length≤401→(wkEL l out).length≤401∧exWL l (401 - out.length)=401 - (wkEL l out).length∧qdl fS fR s (wkEL l out)=qdl fS fR s out
 | [],out,s,h=>by rw[wkEL,exWL];exact⟨h,rfl,rfl⟩
 |e::l,out,s,h=>by
  rw[wkEL,exWL];by_cases h1:out.length≤400
  ·rw[if_pos h1];have h2:=wkE_fold e out s h;have h3:=wkEL_fold l (wkE e false out) s h2.1;rw[h2.2.1];exact⟨h3.1,h3.2.1,h3.2.2.trans h2.2.2⟩
  ·rw[if_neg h1];have e0:401 - out.length=0:=by omega
   rw[e0];have:=exW_le e 0;have h4:exW e 0=0:=by omega
   have:=exWL_le l 0;rw[h4];exact⟨h,by omega,rfl⟩
end
theorem wkF_fold(e:Ex)(out:List Vt)(s:σ)(h:out.length≤401):(wkF e out).length≤401∧qbz fR e (401 - out.length,qdl fS fR s out)=(401 - (wkF e out).length,qdl fS fR s (wkF e out)):=by
 unfold wkF qbz;by_cases ha:absE e=true
 ·rw[if_pos ha,if_pos (.inr ha)];exact⟨h,rfl⟩
 ·rw[if_neg ha];by_cases h1:400<out.length
  ·rw[if_pos (.inl (by simp only;omega)),wkE_eq,if_pos h1];exact⟨h,rfl⟩
  ·have hn:¬(401 - out.length=0∨absE e=true):=by rintro(g|g);omega;exact ha g
   dsimp only;rw[if_neg hn,wkE_eq,if_neg h1];have:=wkEL_fold fS fR e.args (out++[Vt.ofE e true]) s (by simp;omega);refine⟨this.1,?_⟩;rw[this.2.2,foldV_R,←this.2.1,exW_eq,if_neg (show ¬401 - out.length=0 by omega)];congr 2;simp;omega
mutual
theorem wkS_fold:∀(t:St) (d:Nat) (out:List Vt) (s:σ),out.length≤401→(wkS t d out).length≤401∧stW fS fR t d (401 - out.length,qdl fS fR s out)=(401 - (wkS t d out).length,qdl fS fR s (wkS t d out))
 | .mk _ _ _ a b body els,d,out,s,h=>by
  rw[wkS,stW];have h1:=wkF_fold fS fR a out s h;have h2:=wkF_fold fS fR b _ s h1.1;have h3:=wkB_fold body (d+1) _ s h2.1;have h4:=wkB_fold els (d+1) _ s h3.1;rw[h1.2,h2.2,h3.2,h4.2];exact⟨h4.1,rfl⟩
theorem wkB_fold:∀(l:List St) (d:Nat) (out:List Vt) (s:σ),out.length≤401→(wkB l d out).length≤401∧blkW fS fR l d (401 - out.length,qdl fS fR s out)=(401 - (wkB l d out).length,qdl fS fR s (wkB l d out))
 | [],d,out,s,h=>by rw[wkB,blkW];exact⟨h,rfl⟩
 |t::l,d,out,s,h=>by
  rw[wkB,blkW];by_cases h1:out.length≤400
  ·rw[if_pos h1,if_neg (by simp only;omega)];have h2:=wkS_fold t d (out++[Vt.ofS t d]) s (by simp;omega);have h3:=wkB_fold l d _ s h2.1;rw[←h3.2,←h2.2,foldV_S];refine⟨h3.1,?_⟩;simp only[List.length_append,List.length_singleton];congr 3
  ·rw[if_neg h1,if_pos (by simp only;omega)];exact⟨h,rfl⟩
end
theorem wkP_fold(p:Proc)(s:σ):(wkP p).length≤401∧blkW fS fR p.body 1 (401,s)=(401 - (wkP p).length,qdl fS fR s (wkP p)):=wkB_fold fS fR p.body 1 [] s (by simp)
end
def errV:List Vt→Int
 | []=>0
 |v::l=>if v.isS=true∧qbo v.t v.d≠0 then qbo v.t v.d else errV l
theorem foldV_val:∀(l:List Vt) (s:Int),qdl valS qb2 s l=if s≠0 then s else errV l
 | [],s=>by simp[qdl,errV]
 |v::l,s=>by
  have:qdl valS qb2 s (v::l)=qdl valS qb2 (if v.isS then valS s v.t v.d else if v.root then qb2 s v.e else s) l:=rfl;rw[this,foldV_val l,errV];cases hv:v.isS
  ·simp[qb2]
  ·simp only[valS,if_true,true_and];by_cases h:s=0
   ·simp only[h,if_true];by_cases h2:qbo v.t v.d=0<;>simp[h2]
   ·simp[h]
theorem validP_walk(p:Proc):qcn p=if nameOk p.name=false then 7 else if paramsE p.params≠0 then paramsE p.params else if errV (wkP p)≠0 then errV (wkP p)else if 400<(wkP p).length then 2 else 0:=by
 unfold qcn;have h:=wkP_fold valS qb2 p (0:Int);rw[h.2,foldV_val];simp only[ne_eq,not_true_eq_false,if_false];split
 ·rfl
 split
 ·rfl
 by_cases h1:errV (wkP p)=0
 ·simp only[h1,not_true_eq_false,if_false];by_cases h2:400<(wkP p).length
  ·rw[if_pos h2,if_pos ⟨trivial,by omega⟩]
  ·rw[if_neg h2,if_neg (by omega)]
 ·simp only[h1,not_false_eq_true,if_true,false_and,if_false]
def nameV:List Vt→List qac
 | []=>[]
 |v::l=>if v.isS=true∧(v.t.op=1∨v.t.op=6)then v.t.name::nameV l else nameV l
theorem foldV_name:∀(l:List Vt) (s:List qac),qdl nameS qb2 s l=s++nameV l
 | [],s=>by simp[qdl,nameV]
 |v::l,s=>by
  have:qdl nameS qb2 s (v::l)=qdl nameS qb2 (if v.isS then nameS s v.t v.d else if v.root then qb2 s v.e else s) l:=rfl;rw[this,foldV_name l,nameV];cases hv:v.isS
  ·simp[qb2]
  ·simp only[nameS,if_true,true_and];split<;>simp
theorem namesP_walk(p:Proc):qd4 p=p.params.map (·.name)++nameV (wkP p):=by
 unfold qd4;rw[(wkP_fold nameS qb2 p _).2,foldV_name]
def rootV:List Vt→List Ex
 | []=>[]
 |v::l=>if v.root then v.e::rootV l else rootV l
def okV(v:Vt):Prop:=v.isS=true→v.root=false
theorem foldV_root:∀(l:List Vt) (s:List Ex),(∀v∈l,okV v)→qdl keepS exprR s l=s++rootV l
 | [],s,_=>by simp[qdl,rootV]
 |v::l,s,h=>by
  have:qdl keepS exprR s (v::l)=qdl keepS exprR (if v.isS then keepS s v.t v.d else if v.root then exprR s v.e else s) l:=rfl;rw[this,foldV_root l _ (fun x hx=>h x (by simp[hx])),rootV];cases hv:v.isS
  ·simp only[exprR,Bool.false_eq_true,if_false];split<;>simp
  ·have:=h v (by simp) hv;simp[keepS,this]
mutual
theorem wkE_okV:∀(e:Ex) (r:Bool) (out:List Vt),(∀v∈out,okV v)→∀v∈wkE e r out,okV v
 | .mk op n x args,r,out,h=>by
  rw[wkE];split
  ·exact h
  ·refine wkEL_okV args _ fun v hv=>?_;rcases List.mem_append.1 hv with hv|hv
   ·exact h v hv
   ·rw[List.mem_singleton.1 hv];intro h;cases h
theorem wkEL_okV:∀(l:List Ex) (out:List Vt),(∀v∈out,okV v)→∀v∈wkEL l out,okV v
 | [],out,h=>by rw[wkEL];exact h
 |e::l,out,h=>by
  rw[wkEL];split
  ·exact wkEL_okV l _ (wkE_okV e false out h)
  ·exact h
end
theorem wkF_okV(e:Ex)(out:List Vt)(h:∀v∈out,okV v):∀v∈wkF e out,okV v:=by
 unfold wkF;split
 ·exact h
 ·exact wkE_okV e true out h
mutual
theorem wkS_okV:∀(t:St) (d:Nat) (out:List Vt),(∀v∈out,okV v)→∀v∈wkS t d out,okV v
 | .mk _ _ _ a b body els,d,out,h=>by
  rw[wkS];exact wkB_okV els _ _ (wkB_okV body _ _ (wkF_okV b _ (wkF_okV a _ h)))
theorem wkB_okV:∀(l:List St) (d:Nat) (out:List Vt),(∀v∈out,okV v)→∀v∈wkB l d out,okV v
 | [],d,out,h=>by rw[wkB];exact h
 |t::l,d,out,h=>by
  rw[wkB];split
  ·refine wkB_okV l d _ (wkS_okV t d _ fun v hv=>?_);rcases List.mem_append.1 hv with hv|hv
   ·exact h v hv
   ·rw[List.mem_singleton.1 hv];intro h;rfl
  ·exact h
end
theorem exprsP_walk(p:Proc):qcc p=rootV (wkP p):=by
 unfold qcc;rw[(wkP_fold keepS exprR p _).2];have:=foldV_root (wkP p) [] (wkB_okV p.body 1 [] (by simp));simpa using this
theorem root_ok{t:St}{d:Nat}(h:okS t d){e:Ex}(he:e=t.a∨e=t.b)(hn:absE e=false):chkE e 1=0:=by
 have h1:=((qco t d).1 h).1;have hu:(qa8 t.op).2=true∧qb9 t (qa8 t.op).1=true:=by
  unfold qbo at h1;by_cases h:(qa8 t.op).2=false∨qb9 t (qa8 t.op).1=false
  ·rw[if_pos h]at h1;cases h1
  ·simpa using h
 have hs:=hu.2;unfold qb9 at hs;rcases he with rfl|rfl
 ·refine stmtErr_a h1 ?_;cases ha:(qa8 t.op).1.a
  ·simp[ha,hn]at hs
  ·rfl
 ·refine stmtErr_b h1 ?_;cases ha:(qa8 t.op).1.b
  ·simp[ha,hn]at hs
  ·rfl
theorem firstW_root{e:Ex}{x:Nat×List Ex}{P:Ex→Prop}(h:∀y∈x.2,P y)(he:absE e=false→P e):∀y∈(qbz exprR e x).2,P y:=by
 unfold qbz;split
 ·exact h
 ·rename_i hn;simp only[not_or,Bool.not_eq_true]at hn;intro y hy;rcases List.mem_append.1 hy with hy|hy
  ·exact h y hy
  ·rw[List.mem_singleton.1 hy];exact he hn.2
mutual
theorem stW_root:∀(t:St) (d:Nat) (x:Nat×List Ex),okS t d→(∀y∈x.2,chkE y 1=0)→∀y∈(stW keepS exprR t d x).2,chkE y 1=0
 | .mk op nm mx a b body els,d,x,hk,h=>by
  have hk':=(qco _ _).1 hk;rw[stW];refine blkW_root els _ _ hk'.2.2 (blkW_root body _ _ hk'.2.1 (firstW_root (firstW_root h fun hn=>?_) fun hn=>?_))
  ·exact root_ok hk (.inl rfl) hn
  ·exact root_ok hk (.inr rfl) hn
theorem blkW_root:∀(l:List St) (d:Nat) (x:Nat×List Ex),okL l d→(∀y∈x.2,chkE y 1=0)→∀y∈(blkW keepS exprR l d x).2,chkE y 1=0
 | [],d,x,hk,h=>by rw[blkW];exact h
 |t::l,d,x,hk,h=>by
  rw[blkW];split
  ·exact h
  ·exact blkW_root l d _ (fun y hy=>hk y (by simp[hy])) (stW_root t d _ (hk t (by simp)) h)
end
theorem exprs_ok{p:Proc}(h:qcn p=0):∀e∈qcc p,chkE e 1=0:=blkW_root p.body 1 _ (validP_ok h) (by simp)
end Go.Cw
